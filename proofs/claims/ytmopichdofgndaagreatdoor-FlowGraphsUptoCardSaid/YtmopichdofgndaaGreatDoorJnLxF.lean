/- lex.letter, digit, a closure over runes, and lex.run. -/
import Derived.Test.YtmopichdofgndaaGreatDoorRows
import Derived.Test.YtmopichdofgndaaGreatDoorLxData
import Derived.Lib.Hide
import Derived.WalkSpells
import Derived.WalkLawsBesides
import Derived.Laws.EntriesVeiled
import Derived.Laws.RangeAny
import Derived.Shelf.Abstract
import Derived.Outline
set_option linter.all false
namespace Go.Proofs.YtmopichdofgndaaGreatDoor
open Go.RowKit Go.Shelf
def letR (c:Int):Bool:=(decide (97<=c)&&decide (c<=122)) || (decide (65<=c)&&decide (c<=90)) || c==95
def digR (c:Int):Bool:=decide (48<=c)&&decide (c<=57)
theorem zdn (c:Int)(w:World):Calls Tryz.prog 119 #[.int .i32 c] w λe w'=>e= .returned (.bool (digR c))/\w=w':=by
 by_cases h:48<=c
 ·have HF:Hid (digR c=decide (c<=57)):=by show _=_;simp[digR,h]
  go_enter Tryz.func119,Tryz.ntmps119;go_wp2;go_ret;exact⟨by rw[HF.out];rfl,rfl⟩
 ·have HF:Hid (digR c=false):=by show _=_;simp[digR,h]
  go_enter Tryz.func119,Tryz.ntmps119;go_wp2;go_ret;exact⟨by rw[HF.out];rfl,rfl⟩
theorem zhE (c:Int)(w:World):Calls Tryz.prog 118 #[.int .i32 c] w λe w'=>e= .returned (.bool (letR c))/\w=w':=by
 by_cases h1:97<=c
 ·by_cases h2:c<=122
  ·have HF:Hid (letR c=true):=by show _=_;simp[letR,h1,h2]
   go_enter Tryz.func118,Tryz.ntmps118;go_wp2;go_ret;exact⟨by rw[HF.out];rfl,rfl⟩
  ·have h3:65<=c:=by omega
   have h4:¬c<=90:=by omega
   have h5:(c==95)=false:=by simp;omega
   have HF:Hid (letR c=false):=by show _=_;simp only[letR];simp[h2,h4,h5]
   go_enter Tryz.func118,Tryz.ntmps118;go_wp2;go_ret;exact⟨by rw[HF.out];rfl,rfl⟩
 ·by_cases h3:65<=c
  ·by_cases h4:c<=90
   ·have HF:Hid (letR c=true):=by show _=_;simp[letR,h3,h4]
    go_enter Tryz.func118,Tryz.ntmps118;go_wp2;go_ret;exact⟨by rw[HF.out];rfl,rfl⟩
   ·have HF:Hid (letR c=(c==95)):=by show _=_;simp only[letR];simp[h1,h4]
    go_enter Tryz.func118,Tryz.ntmps118;go_wp2;go_ret;exact⟨by rw[HF.out];rfl,rfl⟩
  ·have h5:(c==95)=false:=by simp;omega
   have HF:Hid (letR c=false):=by show _=_;simp only[letR];simp[h1,h3,h5]
   go_enter Tryz.func118,Tryz.ntmps118;go_wp2;go_ret;exact⟨by rw[HF.out];rfl,rfl⟩
theorem ziC (c:Int)(w:World):Calls Tryz.prog 117 #[.int .i32 c] w λe w'=>e= .returned (.bool (letR c || digR c))/\w=w':=by
 cases h:letR c;all_goals
  go_enter Tryz.func117,Tryz.ntmps117;go_wp2_with (first|(go_at_call 118;refine(zhE _ _).mono ?_;rintro e w' ⟨rfl,rfl⟩)|(go_at_call 119;refine(zdn _ _).mono ?_;rintro e w' ⟨rfl,rfl⟩));go_ret;exact⟨by simp,rfl⟩
structure AsksR (g:Nat)(q:Int->Bool)(p:UInt8->Bool):Prop where
 ask:∀(c:Int)(w:World),Calls Tryz.prog g #[.int .i32 c] w λe w'=>e= .returned (.bool (q c))/\w=w'
 ent:Enters Tryz.prog g
 low:∀b:UInt8,q b.toNat=p b
 high:∀c:Int,128<=c->q c=false
 byte:∀b:UInt8,128<=b.toNat->p b=false
theorem zms (b:UInt8):letR b.toNat=zea b:=by
 unfold letR zea;rw[Bool.eq_iff_iff];simp only[Bool.or_eq_true,Bool.and_eq_true,decide_eq_true_eq,beq_iff_eq];omega
theorem zmt (b:UInt8):digR b.toNat=zbz b:=by
 unfold digR zbz;rw[Bool.eq_iff_iff];simp only[Bool.and_eq_true,decide_eq_true_eq];omega
theorem zmu:AsksR 117 (λc=>letR c || digR c) isWd:=⟨ziC,enters_of Tryz.func117 (by kernel_rfl) rfl,λb=>by simp only[zms,zmt];rfl,λc h=>by simp[letR,digR];omega,λb h=>by simp[isWd,zea,zbz];omega⟩
theorem zdo (s:ByteArray)(i:Nat)(h:i < s.size):s.data.toList[i]?=some s[i]:=by
 rw[Array.getElem?_toList,Array.getElem?_eq_getElem (by simpa using h)];rfl
def ziD (n:Nat)(W:World)(e:Ending)(w':World):Prop:=e= .returned (.int .i64 n)/\Below W.heap.size W w'
theorem zcL (w:World)(s:ByteArray)(pos:Nat):Below w.heap.size w (w.iter s pos):=by
 exact(Below.refl _ _).alloc (lrq _) _
set_option maxRecDepth 1000000 in
set_option maxHeartbeats 800000 in
theorem zmv (g:Nat)(q:Int->Bool)(p:UInt8->Bool)(ha:AsksR g q p)(s:ByteArray)(hs:s.size<=9223372036854775807)(w:World):
  Calls Tryz.prog 116 #[.string s,.func (.func g) #[] #[]] w (ziD (runB p s.data.toList) w):=by
 have hent:=ha.ent;unfold Enters at hent;have HA:=hdq ha;clear ha;go_enter Tryz.func116,Tryz.ntmps116;go_wp2;go_loopw [] (λwr=>∃pos:Nat,wr=w.iter s pos/\pos<=runB p s.data.toList) (λwr=>s.size - wr.iterPos w.heap.size);case atStart=>exact⟨0,rfl,Nat.zero_le _⟩
 case round=>
  obtain⟨pos,rfl,XY⟩:=hrel;have HP:=hdq XY;clear XY;by_cases hp:pos < s.size
  ·have hb:=zdo s pos hp;have HB:=hdq hb;clear hb;by_cases Vu:(s[pos]'hp).toNat < 128
   ·have SV:∀ty,(Instr.next (.pointer (some ⟨w.heap.size,0,none⟩)) true ty).run Tryz.prog (w.iter s pos)=_:=λty=>run_next_ascii w s pos ty hp Vu;have GR:=hdq (HA.ask ((s[pos]'hp).toNat :Int));have HQ:=hdq (HA.low (s[pos]'hp));obtain⟨b,hb⟩:=nmq ((s[pos]'hp));rw[<-hb]at SV GR HQ HB;clear Vu hb;cases hq:q (b.toNat:Int)
    ·have LP:runB p s.data.toList=pos:=zco HB.out (by rw[<-HQ.out];exact hq) HP.out;have HF:=hdq LP;have Jf:=GR.out;rw[hq]at Jf;have FZ:=hdq Jf;clear hq LP GR Jf;go_wp2_with fail;refine(FZ _).mono ?_;rintro _ w1 ⟨rfl,rfl⟩;go_wp2_with fail;go_ret;exact⟨by rw[HF.out];rfl,zcL _ _ _⟩
    ·have Ur:pos+1<=runB p s.data.toList:=zdm HB.out (by rw[<-HQ.out];exact hq) HP.out;have HF:=hdq Ur;have Jf:=GR.out;rw[hq]at Jf;have FZ:=hdq Jf;clear hq Ur GR Jf;go_wp2_with fail;refine(FZ _).mono ?_;rintro _ w1 ⟨rfl,rfl⟩;go_wp2_with fail;go_roundw;case rel=>exact⟨pos+1,rfl,HF.out⟩
     case measure=>simp;omega
   ·have Fb:128<=(s[pos]'hp).toNat :=by omega
    have SV:∀ty,(Instr.next (.pointer (some ⟨w.heap.size,0,none⟩)) true ty).run Tryz.prog (w.iter s pos)=_:=λty=>run_next_any w s pos ty hp;have hd:=decode_high s pos hp Fb;have LP:runB p s.data.toList=pos:=zco HB.out (HA.byte _ Fb) HP.out;obtain⟨c,hc⟩:=nmq (Utf8.decode s pos);rw[<-hc]at SV hd;have hq:=HA.high c.1 (by have:=hd.1;omega);have Jf:=HA.ask c.1;rw[hq]at Jf;have FZ:=hdq Jf;have HF:=hdq LP;clear Vu Fb hc hd hq Jf LP;go_wp2_with fail;refine(FZ _).mono ?_;rintro _ w1 ⟨rfl,rfl⟩;go_wp2_with fail;go_ret;exact⟨by rw[HF.out];rfl,zcL _ _ _⟩
  ·have SV:∀ty,(Instr.next (.pointer (some ⟨w.heap.size,0,none⟩)) true ty).run Tryz.prog (w.iter s pos)=_:=λty=>run_next_end w s pos ty hp;have LP:runB p s.data.toList=s.size:=by
    have h1:=HP.out;have h2:s.data.toList.length=s.size:=by simp
    have h3:=zgm p s.data.toList;omega
   have HF:=hdq LP;clear LP;go_wp2;go_ret;exact⟨by rw[HF.out];rfl,zcL _ _ _⟩
