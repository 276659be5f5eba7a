/- lex. -/
import Derived.Test.YtfomomaomggpbaaGreatDoorRows
import Derived.Test.YtfomomaomggpbaaGreatDoorLxData
import Derived.Lib.Hide
import Derived.WalkSpells
import Derived.WalkLawsBesides
import Derived.Laws.EntriesVeiled
import Derived.Shelf.Abstract
set_option linter.all false
namespace Go.Proofs.YtfomomaomggpbaaGreatDoor
open Go.RowKit Go.Shelf
def letR (c:Int):Bool:=(decide (97<=c)&&decide (c<=122)) || (decide (65<=c)&&decide (c<=90)) || c==95
def digR (c:Int):Bool:=decide (48<=c)&&decide (c<=57)
def blkR (c:Int):Bool:=c==32 || c==9 || c==10 || c==13
theorem zb1 (c:Int)(w:World):Calls Tryz.prog 160 #[.int .i32 c] w λe w'=>e= .returned (.bool (digR c))/\w=w':=by
 by_cases h:48<=c
 ·have HF:Hid (digR c=decide (c<=57)):=by show _=_;simp[digR,h]
  go_enter Tryz.func160,Tryz.ntmps160;go_wp2;go_ret;exact⟨by rw[HF.out];rfl,rfl⟩
 ·have HF:Hid (digR c=false):=by show _=_;simp[digR,h]
  go_enter Tryz.func160,Tryz.ntmps160;go_wp2;go_ret;exact⟨by rw[HF.out];rfl,rfl⟩
theorem zeX (c:Int)(w:World):Calls Tryz.prog 159 #[.int .i32 c] w λe w'=>e= .returned (.bool (letR c))/\w=w':=by
 by_cases h1:97<=c
 ·by_cases h2:c<=122
  ·have HF:Hid (letR c=true):=by show _=_;simp[letR,h1,h2]
   go_enter Tryz.func159,Tryz.ntmps159;go_wp2;go_ret;exact⟨by rw[HF.out];rfl,rfl⟩
  ·have h3:65<=c:=by omega
   have h4:¬c<=90:=by omega
   have h5:(c==95)=false:=by simp;omega
   have HF:Hid (letR c=false):=by show _=_;simp only[letR];simp[h2,h4,h5]
   go_enter Tryz.func159,Tryz.ntmps159;go_wp2;go_ret;exact⟨by rw[HF.out];rfl,rfl⟩
 ·by_cases h3:65<=c
  ·by_cases h4:c<=90
   ·have HF:Hid (letR c=true):=by show _=_;simp[letR,h3,h4]
    go_enter Tryz.func159,Tryz.ntmps159;go_wp2;go_ret;exact⟨by rw[HF.out];rfl,rfl⟩
   ·have HF:Hid (letR c=(c==95)):=by show _=_;simp only[letR];simp[h1,h4]
    go_enter Tryz.func159,Tryz.ntmps159;go_wp2;go_ret;exact⟨by rw[HF.out];rfl,rfl⟩
  ·have h5:(c==95)=false:=by simp;omega
   have HF:Hid (letR c=false):=by show _=_;simp only[letR];simp[h1,h3,h5]
   go_enter Tryz.func159,Tryz.ntmps159;go_wp2;go_ret;exact⟨by rw[HF.out];rfl,rfl⟩
theorem zjS (c:Int)(w:World):Calls Tryz.prog 158 #[.int .i32 c] w λe w'=>e= .returned (.bool (letR c || digR c))/\w=w':=by
 cases h:letR c;all_goals
  go_enter Tryz.func158,Tryz.ntmps158;go_wp2_with (first|(go_at_call 159;refine(zeX _ _).mono ?_;rintro e w' ⟨rfl,rfl⟩)|(go_at_call 160;refine(zb1 _ _).mono ?_;rintro e w' ⟨rfl,rfl⟩));go_ret;exact⟨by simp,rfl⟩
structure AsksR (g:Nat)(q:Int->Bool)(p:UInt8->Bool):Prop where
 ask:∀(c:Int)(w:World),Calls Tryz.prog g #[.int .i32 c] w λe w'=>e= .returned (.bool (q c))/\w=w'
 ent:Enters Tryz.prog g
 low:∀b:UInt8,q b.toNat=p b
 high:∀c:Int,128<=c->q c=false
 byte:∀b:UInt8,128<=b.toNat->p b=false
theorem zpE (b:UInt8):letR b.toNat=zjP b:=by
 unfold letR zjP;rw[Bool.eq_iff_iff];simp only[Bool.or_eq_true,Bool.and_eq_true,decide_eq_true_eq,beq_iff_eq];omega
theorem zml (b:UInt8):digR b.toNat=zaD b:=by
 unfold digR zaD;rw[Bool.eq_iff_iff];simp only[Bool.and_eq_true,decide_eq_true_eq];omega
theorem low_b (b:UInt8):blkR b.toNat=zbv b:=by
 unfold blkR zbv;rw[Bool.eq_iff_iff];simp;omega
theorem zoq:AsksR 158 (λc=>letR c || digR c) isWd:=⟨zjS,enters_of Tryz.func158 (by kernel_rfl) rfl,λb=>by simp only[zpE,zml];rfl,λc h=>by simp[letR,digR];omega,λb h=>by simp[isWd,zjP,zaD];omega⟩
theorem zjT (s:ByteArray)(i:Nat)(h:i < s.size):s.data.toList[i]?=some s[i]:=by
 rw[Array.getElem?_toList,Array.getElem?_eq_getElem (by simpa using h)];rfl
def zdX (n:Nat)(W:World)(e:Ending)(w':World):Prop:=e= .returned (.int .i64 n)/\Below W.heap.size W w'
theorem zc7 (w:World)(s:ByteArray)(pos:Nat):Below w.heap.size w (w.iter s pos):=by
 exact(Below.refl _ _).alloc (aL _) _
set_option maxRecDepth 1000000 in
set_option maxHeartbeats 800000 in
theorem zfC (g:Nat)(q:Int->Bool)(p:UInt8->Bool)(ha:AsksR g q p)(s:ByteArray)(hs:s.size<=9223372036854775807)(w:World):
  Calls Tryz.prog 126 #[.string s,.func (.func g) #[] #[]] w (zdX (runB p s.data.toList) w):=by
 have hent:=ha.ent;unfold Enters at hent;have HA:=aA ha;clear ha;go_enter Tryz.func126,Tryz.ntmps126;go_wp2;go_loopw [] (λwr=>∃pos:Nat,wr=w.iter s pos/\pos<=runB p s.data.toList) (λwr=>s.size - wr.iterPos w.heap.size);case atStart=>exact⟨0,rfl,Nat.zero_le _⟩
 case round=>
  obtain⟨pos,rfl,Lb⟩:=hrel;have HP:=aA Lb;clear Lb;by_cases hp:pos < s.size
  ·have hb:=zjT s pos hp;have HB:=aA hb;clear hb;by_cases Tq:(s[pos]'hp).toNat < 128
   ·have Kk:∀ty,(Instr.next (.pointer (some ⟨w.heap.size,0,none⟩)) true ty).run Tryz.prog (w.iter s pos)=_:=λty=>run_next_ascii w s pos ty hp Tq;have H9:=aA (HA.ask ((s[pos]'hp).toNat :Int));have HQ:=aA (HA.low (s[pos]'hp));obtain⟨b,hb⟩:=aF ((s[pos]'hp));rw[<-hb]at Kk H9 HQ HB;clear Tq hb;cases hq:q (b.toNat:Int)
    ·have Jm:runB p s.data.toList=pos:=zgi HB.out (by rw[<-HQ.out];exact hq) HP.out;have HF:=aA Jm;have Ht:=H9.out;rw[hq]at Ht;have LL:=aA Ht;clear hq Jm H9 Ht;go_wp2_with fail;refine(LL _).mono ?_;rintro _ w1 ⟨rfl,rfl⟩;go_wp2_with fail;go_ret;exact⟨by rw[HF.out];rfl,zc7 _ _ _⟩
    ·have SM:pos+1<=runB p s.data.toList:=zjQ HB.out (by rw[<-HQ.out];exact hq) HP.out;have HF:=aA SM;have Ht:=H9.out;rw[hq]at Ht;have LL:=aA Ht;clear hq SM H9 Ht;go_wp2_with fail;refine(LL _).mono ?_;rintro _ w1 ⟨rfl,rfl⟩;go_wp2_with fail;go_roundw;case rel=>exact⟨pos+1,rfl,HF.out⟩
     case measure=>simp;omega
   ·have G9:128<=(s[pos]'hp).toNat :=by omega
    have Kk:∀ty,(Instr.next (.pointer (some ⟨w.heap.size,0,none⟩)) true ty).run Tryz.prog (w.iter s pos)=_:=λty=>run_next_any w s pos ty hp;have hd:=decode_high s pos hp G9;have Jm:runB p s.data.toList=pos:=zgi HB.out (HA.byte _ G9) HP.out;obtain⟨c,hc⟩:=aF (Utf8.decode s pos);rw[<-hc]at Kk hd;have hq:=HA.high c.1 (by have:=hd.1;omega);have Ht:=HA.ask c.1;rw[hq]at Ht;have LL:=aA Ht;have HF:=aA Jm;clear Tq G9 hc hd hq Ht Jm;go_wp2_with fail;refine(LL _).mono ?_;rintro _ w1 ⟨rfl,rfl⟩;go_wp2_with fail;go_ret;exact⟨by rw[HF.out];rfl,zc7 _ _ _⟩
  ·have Kk:∀ty,(Instr.next (.pointer (some ⟨w.heap.size,0,none⟩)) true ty).run Tryz.prog (w.iter s pos)=_:=λty=>run_next_end w s pos ty hp;have Jm:runB p s.data.toList=s.size:=by
    have h1:=HP.out;have h2:s.data.toList.length=s.size:=by simp
    have h3:=zb0 p s.data.toList;omega
   have HF:=aA Jm;clear Jm;go_wp2;go_ret;exact⟨by rw[HF.out];rfl,zc7 _ _ _⟩
theorem zjU (c:Int)(w:World):Calls Tryz.prog 127 #[.int .i32 c] w λe w'=>e= .returned (.bool (blkR c))/\w=w':=by
 unfold blkR;cases h1:(c==32)<;>cases h2:(c==9)<;>cases h3:(c==10);all_goals
  go_enter Tryz.func127,Tryz.ntmps127;go_wp2;go_ret;exact⟨by simp,rfl⟩
theorem zjV (c:Int)(w:World):Calls Tryz.prog 195 #[.int .i32 c] w λe w'=>e= .returned (.bool (letR c || digR c))/\w=w':=by
 cases h:letR c;all_goals
  go_enter Tryz.func195,Tryz.ntmps195;go_wp2_with (first|(go_at_call 159;refine(zeX _ _).mono ?_;rintro e w' ⟨rfl,rfl⟩)|(go_at_call 160;refine(zb1 _ _).mono ?_;rintro e w' ⟨rfl,rfl⟩));go_ret;exact⟨by simp,rfl⟩
theorem zpF:AsksR 160 digR zaD:=⟨zb1,enters_of Tryz.func160 (by kernel_rfl) rfl,zml,λc h=>by simp[digR];omega,λb h=>by simp[zaD];omega⟩
theorem zor:AsksR 195 (λc=>letR c || digR c) isWd:=⟨zjV,enters_of Tryz.func195 (by kernel_rfl) rfl,λb=>by simp only[zpE,zml];rfl,λc h=>by simp[letR,digR];omega,λb h=>by simp[isWd,zjP,zaD];omega⟩
theorem zpG:AsksR 127 blkR zbv:=⟨zjU,enters_of Tryz.func127 (by kernel_rfl) rfl,low_b,λc h=>by simp[blkR];omega,λb h=>by simp[zbv];omega⟩
