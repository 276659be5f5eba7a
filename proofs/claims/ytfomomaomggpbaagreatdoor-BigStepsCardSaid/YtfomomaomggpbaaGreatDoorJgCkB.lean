/- Small words that the walks over trees share. -/
import Derived.Test.YtfomomaomggpbaaGreatDoorJgBase
import Derived.Deep.DeepCutAuto
import Derived.BigRegion
import Derived.WalkMore
set_option linter.all false
set_option maxHeartbeats 1600000
set_option maxRecDepth 100000
namespace Go.Proofs.YtfomomaomggpbaaGreatDoor
open Go.RowKit Go.Shelf
def zap (b:Bool)(W:World)(e:Ending)(w':World):Prop:=e= .returned (.bool b)/\Fr NoT W w'
theorem zaB {α:Type}{l:List α}{k:Nat}(h:k < l.length):∃x r,l.drop k=x::r/\l.drop (k+1)=r:=
 ⟨_,_,List.drop_eq_getElem_cons h,rfl⟩
theorem bk4 {w:World}{g:Nat}{t:TypeId}{a b c d:Value}(h:Bk w g t #[a,b,c,d]):w.cell? ⟨g,0,none⟩=some a/\w.cell? ⟨g,1,none⟩=some b/\w.cell? ⟨g,2,none⟩=some c/\w.cell? ⟨g,3,none⟩=some d/\g < w.heap.size:=
 ⟨h.cell 0,h.cell 1,h.cell 2,h.cell 3,h.lt⟩
def IdxP (b:Bool)(W:World)(e:Ending)(w':World):Prop:=∃n:Int,decide (0<=n)=b/\e= .returned (.int .i64 n)/\Fr NoT W w'
def zdu (p:ByteArray->Int->Bool)(xs:List Va):Bool:=xs.all λx=>p x.nm x.at_
theorem zie {p:ByteArray->Int->Bool}{xs:List Va}{i:Nat}{a0 a1 ar}(hd:xs.drop i=(⟨a0,a1⟩:Va)::ar/\xs.drop (i+1)=ar):zdu p (xs.drop i)=(p a0 a1&&zdu p (xs.drop (i+1))):=by
 rw[hd.1,hd.2];rfl
def AskVa (g:Nat)(cap:Array Value)(w:World)(S:Nat->Prop)(Z:Prop)(p:ByteArray->Int->Bool)(xs:List Va):Prop:=
 ∀(i:Nat)(a0:ByteArray)(a1:Int)(ar:List Va),xs.drop i=(⟨a0,a1⟩:Va)::ar->∀(W:World),Fr NoT w W->Calls Tryz.prog g (#[.agg #[.string a0,.int .i64 a1]]++cap) W (zap (p a0 a1) W)
theorem AskVa.next {g:Nat}{cap:Array Value}{w w1:World}{S:Nat->Prop}{Z:Prop}{p:ByteArray->Int->Bool}{xs:List Va}(h:AskVa g cap w S Z p xs)(hf:Fr NoT w w1):AskVa g cap w1 S Z p xs:=
 λi a0 a1 ar hd W hw=>h i a0 a1 ar hd W (hf.trans hw)
theorem idxVa (p:ByteArray->Int->Bool)(xs:List Va)(A:Option Addr)(c:Nat)(g:Nat)(cap:Array Value)(w:World)(S:Nat->Prop)(Z:Prop)(hS:∀b,S b->b < w.heap.size)(hx:SlR (λb o=>VaR w S Z xs b o) xs.length 24 A c)(hent:Enters Tryz.prog g)(Hr:AskVa g cap w S Z (λa0 a1=> !(p a0 a1)) xs):
  Calls Tryz.prog 219 #[.slice A xs.length c,.func (.func g) #[] cap] w (IdxP (!(zdu p xs)) w):=by
 have hl:xs.length<=9223372036854775807:=leq9 hx.1 hx.2.1.1;have HA:=hdq Hr;have HX:=hdq hx;have HS:=hdq hS;obtain⟨m,hm⟩:=nmq xs.length;rw[<-hm]at hl ⊢;have HM:=hdq hm;clear Hr hx hS hm;unfold Enters at hent;go_enter Tryz.func219,Tryz.ntmps219;go_wp2_with fail;go_loopw [8] (λi wr=>∃k:Nat,k<=m/\i= .int .i64 k/\Hid (Fr NoT w wr)/\Hid (zdu p xs=zdu p (xs.drop k))) (λi _=>m - (intOf i).toNat);case atStart=>exact⟨0,Nat.zero_le _,rfl,Fr.refl _ _,rfl⟩
 case round=>
  obtain⟨k,hk,rfl,hb,Ha⟩:=hrel;by_cases Hl:k < m
  ·obtain⟨⟨a0,a1⟩,ar,hd⟩:=zaB (show k < xs.length from by rw[<-HM.out];exact Hl);obtain⟨b,o,rfl,Hh⟩:=HX.2.2 (by rw[<-HM.out];omega);have Hm:=(VaR.keep (hb.same λb hb=>⟨HS b hb,id⟩) Hh).drop k;rw[hd.1]at Hm;obtain⟨⟨Gh,_,_,c0,c1⟩,_⟩:=Hm;have Jr:b < wr.heap.size:=ltq (HS _ Gh) hb.size;have GD:(k:Int) < (m:Int):=by omega
   have Fz:(0:Int)<=(k:Int):=by omega
   simp only at c0 c1;have HC:=hdq (HA k a0 a1 ar hd.1 wr hb.out);have Gi:=hdq (Ha.trans (zie hd));have HB:=hdq hb.out;clear hd Hh Ha hb Gh;go_wp2_with fail;refine HC.mono ?_;rintro _ w1 ⟨rfl,Gw⟩;have Gs:=hdq (HB.trans Gw);clear Gw c0 c1;cases hp:p a0 a1
   ·have HF:=hdq (show zdu p xs=false from by rw[Gi.out,hp];rfl);clear hp Gi;go_wp2_with fail;go_ret;exact⟨k,by rw[HF.out];simp,rfl,Gs.out⟩
   ·have HN:=hdq (show zdu p xs=zdu p (xs.drop (k+1))from by rw[Gi.out,hp];rfl);clear hp Gi;go_wp2_with fail;go_roundw;case rel=>exact⟨k+1,by omega,by go_num,Gs.out,HN⟩
    case measure=>simp[intOf];omega
  ·have HF:=hdq (show zdu p xs=true from by rw[Ha.out,List.drop_eq_nil_of_le (by rw[<-HM.out];omega)];rfl);have HB:=hdq hb.out;clear Ha hb;go_wp2_with fail;go_ret;exact⟨-1,by rw[HF.out];simp,rfl,HB.out⟩
theorem conVa (p:ByteArray->Int->Bool)(xs:List Va)(A:Option Addr)(c:Nat)(g:Nat)(cap:Array Value)(w:World)(S:Nat->Prop)(Z:Prop)(hS:∀b,S b->b < w.heap.size)(hx:SlR (λb o=>VaR w S Z xs b o) xs.length 24 A c)(hent:Enters Tryz.prog g)(Hr:AskVa g cap w S Z (λa0 a1=> !(p a0 a1)) xs):
  Calls Tryz.prog 162 #[.slice A xs.length c,.func (.func g) #[] cap] w (zap (!(zdu p xs)) w):=by
 have HC:=hdq (idxVa p xs A c g cap w S Z hS hx hent Hr);clear Hr hent hx hS;go_enter Tryz.func162,Tryz.ntmps162;go_wp2_with fail;refine HC.mono ?_;rintro e w1 ⟨n,hn,rfl,hb⟩;have HN:=hdq hn;have HB:=hdq hb;clear hn hb;go_wp2_with fail;go_ret;exact⟨by rw[<-HN.out];rfl,HB.out⟩
theorem clVa (p:ByteArray->Int->Bool)(xs:List Va)(g:Nat)(cap:Array Value)(w:World)(S:Nat->Prop)(Z:Prop)(hS:∀b,S b->b < w.heap.size)(B:Nat)(Gm:Bk w B 209 #[.func (.func g) #[] cap])(hent:Enters Tryz.prog g)(Hr:AskVa g cap w S Z p xs):AskVa 163 #[.pointer (some ⟨B,0,none⟩)] w S Z (λa0 a1=> !(p a0 a1)) xs:=by
 intro i a0 a1 ar hd W hw;have Hc:Fr NoT W (W.alloc (.cells #[.string a0,.int .i64 a1] 77)):=(Fr.refl _ _).alloc _;have HC:=hdq (Hr i a0 a1 ar hd _ (hw.trans Hc));have hb:=Gm.fr0 hw;have c0:=hb.cell 0;have hl:=hb.lt;simp only[List.getElem?_toArray,List.getElem?_cons_zero]at c0;have Gg:=hdq Hc;clear Hr hd hw Hc hS Gm hb;unfold Enters at hent;go_enter Tryz.func163,Tryz.ntmps163;go_wp2_with fail;refine HC.mono ?_;rintro _ w1 ⟨rfl,hb⟩;have HB:=hdq (Gg.trans hb);clear hb;go_wp2_with fail;go_ret;exact⟨rfl,HB.out⟩
theorem zjs (p:ByteArray->Int->Bool)(xs:List Va)(A:Option Addr)(c:Nat)(g:Nat)(cap:Array Value)(w:World)(S:Nat->Prop)(Z:Prop)(hS:∀b,S b->b < w.heap.size)(hx:SlR (λb o=>VaR w S Z xs b o) xs.length 24 A c)(hent:Enters Tryz.prog g)(Hr:AskVa g cap w S Z p xs):
  Calls Tryz.prog 92 #[.slice A xs.length c,.func (.func g) #[] cap] w (zap (zdu p xs) w):=by
 have Jt:= @makeF Tryz.prog;have Hc:Fr NoT w (w.alloc (.cells #[.func (.func g) #[] cap] 209)):=(Fr.refl _ _).alloc _;have Kg:∀b,S b->b < (w.alloc (.cells #[.func (.func g) #[] cap] 209)).heap.size :=λb hb=>ltq (hS b hb) Hc.size;have HC:=hdq (conVa p xs A c 163 #[.pointer (some ⟨w.heap.size,0,none⟩)] _ S Z Kg (hx.imp λ_ _ hx=>VaR.keep (Hc.same λb hb=>⟨hS b hb,id⟩) hx) (enters_of Tryz.func163 (by kernel_rfl) rfl)
  (clVa p xs g cap _ S Z Kg w.heap.size (Bk.new _ _ _) hent (Hr.next Hc)))
 have Gg:=hdq Hc;clear Hr hent hx hS Kg Hc;go_enter Tryz.func92,Tryz.ntmps92;go_wp2_with fail;refine HC.mono ?_;rintro _ w1 ⟨rfl,hb⟩;have HB:=hdq (Gg.trans hb);clear hb;go_wp2_with fail;go_ret;exact⟨by simp,HB.out⟩
def zdv (p:ByteArray->Int->Int->Bool)(xs:List Arr):Bool:=xs.all λx=>p x.nm x.size x.at_
theorem zif {p:ByteArray->Int->Int->Bool}{xs:List Arr}{i:Nat}{a0 a1 a2 ar}(hd:xs.drop i=(⟨a0,a1,a2⟩:Arr)::ar/\xs.drop (i+1)=ar):zdv p (xs.drop i)=(p a0 a1 a2&&zdv p (xs.drop (i+1))):=by
 rw[hd.1,hd.2];rfl
def AskAr (g:Nat)(cap:Array Value)(w:World)(S:Nat->Prop)(Z:Prop)(p:ByteArray->Int->Int->Bool)(xs:List Arr):Prop:=
 ∀(i:Nat)(a0:ByteArray)(a1:Int)(a2:Int)(ar:List Arr),xs.drop i=(⟨a0,a1,a2⟩:Arr)::ar->∀(W:World),Fr NoT w W->Calls Tryz.prog g (#[.agg #[.string a0,.int .i64 a1,.int .i64 a2]]++cap) W (zap (p a0 a1 a2) W)
theorem AskAr.next {g:Nat}{cap:Array Value}{w w1:World}{S:Nat->Prop}{Z:Prop}{p:ByteArray->Int->Int->Bool}{xs:List Arr}(h:AskAr g cap w S Z p xs)(hf:Fr NoT w w1):AskAr g cap w1 S Z p xs:=
 λi a0 a1 a2 ar hd W hw=>h i a0 a1 a2 ar hd W (hf.trans hw)
theorem idxAr (p:ByteArray->Int->Int->Bool)(xs:List Arr)(A:Option Addr)(c:Nat)(g:Nat)(cap:Array Value)(w:World)(S:Nat->Prop)(Z:Prop)(hS:∀b,S b->b < w.heap.size)(hx:SlR (λb o=>ArR w S Z xs b o) xs.length 32 A c)(hent:Enters Tryz.prog g)(Hr:AskAr g cap w S Z (λa0 a1 a2=> !(p a0 a1 a2)) xs):
  Calls Tryz.prog 226 #[.slice A xs.length c,.func (.func g) #[] cap] w (IdxP (!(zdv p xs)) w):=by
 have hl:xs.length<=9223372036854775807:=leq9 hx.1 hx.2.1.1;have HA:=hdq Hr;have HX:=hdq hx;have HS:=hdq hS;obtain⟨m,hm⟩:=nmq xs.length;rw[<-hm]at hl ⊢;have HM:=hdq hm;clear Hr hx hS hm;unfold Enters at hent;go_enter Tryz.func226,Tryz.ntmps226;go_wp2_with fail;go_loopw [8] (λi wr=>∃k:Nat,k<=m/\i= .int .i64 k/\Hid (Fr NoT w wr)/\Hid (zdv p xs=zdv p (xs.drop k))) (λi _=>m - (intOf i).toNat);case atStart=>exact⟨0,Nat.zero_le _,rfl,Fr.refl _ _,rfl⟩
 case round=>
  obtain⟨k,hk,rfl,hb,Ha⟩:=hrel;by_cases Hl:k < m
  ·obtain⟨⟨a0,a1,a2⟩,ar,hd⟩:=zaB (show k < xs.length from by rw[<-HM.out];exact Hl);obtain⟨b,o,rfl,Hh⟩:=HX.2.2 (by rw[<-HM.out];omega);have Hm:=(ArR.keep (hb.same λb hb=>⟨HS b hb,id⟩) Hh).drop k;rw[hd.1]at Hm;obtain⟨⟨Gh,_,_,_,c0,c1,c2⟩,_⟩:=Hm;have Jr:b < wr.heap.size:=ltq (HS _ Gh) hb.size;have GD:(k:Int) < (m:Int):=by omega
   have Fz:(0:Int)<=(k:Int):=by omega
   simp only at c0 c1 c2;have HC:=hdq (HA k a0 a1 a2 ar hd.1 wr hb.out);have Gi:=hdq (Ha.trans (zif hd));have HB:=hdq hb.out;clear hd Hh Ha hb Gh;go_wp2_with fail;refine HC.mono ?_;rintro _ w1 ⟨rfl,Gw⟩;have Gs:=hdq (HB.trans Gw);clear Gw c0 c1 c2;cases hp:p a0 a1 a2
   ·have HF:=hdq (show zdv p xs=false from by rw[Gi.out,hp];rfl);clear hp Gi;go_wp2_with fail;go_ret;exact⟨k,by rw[HF.out];simp,rfl,Gs.out⟩
   ·have HN:=hdq (show zdv p xs=zdv p (xs.drop (k+1))from by rw[Gi.out,hp];rfl);clear hp Gi;go_wp2_with fail;go_roundw;case rel=>exact⟨k+1,by omega,by go_num,Gs.out,HN⟩
    case measure=>simp[intOf];omega
  ·have HF:=hdq (show zdv p xs=true from by rw[Ha.out,List.drop_eq_nil_of_le (by rw[<-HM.out];omega)];rfl);have HB:=hdq hb.out;clear Ha hb;go_wp2_with fail;go_ret;exact⟨-1,by rw[HF.out];simp,rfl,HB.out⟩
theorem conAr (p:ByteArray->Int->Int->Bool)(xs:List Arr)(A:Option Addr)(c:Nat)(g:Nat)(cap:Array Value)(w:World)(S:Nat->Prop)(Z:Prop)(hS:∀b,S b->b < w.heap.size)(hx:SlR (λb o=>ArR w S Z xs b o) xs.length 32 A c)(hent:Enters Tryz.prog g)(Hr:AskAr g cap w S Z (λa0 a1 a2=> !(p a0 a1 a2)) xs):
  Calls Tryz.prog 172 #[.slice A xs.length c,.func (.func g) #[] cap] w (zap (!(zdv p xs)) w):=by
 have HC:=hdq (idxAr p xs A c g cap w S Z hS hx hent Hr);clear Hr hent hx hS;go_enter Tryz.func172,Tryz.ntmps172;go_wp2_with fail;refine HC.mono ?_;rintro e w1 ⟨n,hn,rfl,hb⟩;have HN:=hdq hn;have HB:=hdq hb;clear hn hb;go_wp2_with fail;go_ret;exact⟨by rw[<-HN.out];rfl,HB.out⟩
theorem clAr (p:ByteArray->Int->Int->Bool)(xs:List Arr)(g:Nat)(cap:Array Value)(w:World)(S:Nat->Prop)(Z:Prop)(hS:∀b,S b->b < w.heap.size)(B:Nat)(Gm:Bk w B 214 #[.func (.func g) #[] cap])(hent:Enters Tryz.prog g)(Hr:AskAr g cap w S Z p xs):AskAr 173 #[.pointer (some ⟨B,0,none⟩)] w S Z (λa0 a1 a2=> !(p a0 a1 a2)) xs:=by
 intro i a0 a1 a2 ar hd W hw;have Hc:Fr NoT W (W.alloc (.cells #[.string a0,.int .i64 a1,.int .i64 a2] 61)):=(Fr.refl _ _).alloc _;have HC:=hdq (Hr i a0 a1 a2 ar hd _ (hw.trans Hc));have hb:=Gm.fr0 hw;have c0:=hb.cell 0;have hl:=hb.lt;simp only[List.getElem?_toArray,List.getElem?_cons_zero]at c0;have Gg:=hdq Hc;clear Hr hd hw Hc hS Gm hb;unfold Enters at hent;go_enter Tryz.func173,Tryz.ntmps173;go_wp2_with fail;refine HC.mono ?_;rintro _ w1 ⟨rfl,hb⟩;have HB:=hdq (Gg.trans hb);clear hb;go_wp2_with fail;go_ret;exact⟨rfl,HB.out⟩
theorem zjt (p:ByteArray->Int->Int->Bool)(xs:List Arr)(A:Option Addr)(c:Nat)(g:Nat)(cap:Array Value)(w:World)(S:Nat->Prop)(Z:Prop)(hS:∀b,S b->b < w.heap.size)(hx:SlR (λb o=>ArR w S Z xs b o) xs.length 32 A c)(hent:Enters Tryz.prog g)(Hr:AskAr g cap w S Z p xs):
  Calls Tryz.prog 95 #[.slice A xs.length c,.func (.func g) #[] cap] w (zap (zdv p xs) w):=by
 have Jt:= @makeF Tryz.prog;have Hc:Fr NoT w (w.alloc (.cells #[.func (.func g) #[] cap] 214)):=(Fr.refl _ _).alloc _;have Kg:∀b,S b->b < (w.alloc (.cells #[.func (.func g) #[] cap] 214)).heap.size :=λb hb=>ltq (hS b hb) Hc.size;have HC:=hdq (conAr p xs A c 173 #[.pointer (some ⟨w.heap.size,0,none⟩)] _ S Z Kg (hx.imp λ_ _ hx=>ArR.keep (Hc.same λb hb=>⟨hS b hb,id⟩) hx) (enters_of Tryz.func173 (by kernel_rfl) rfl)
  (clAr p xs g cap _ S Z Kg w.heap.size (Bk.new _ _ _) hent (Hr.next Hc)))
 have Gg:=hdq Hc;clear Hr hent hx hS Kg Hc;go_enter Tryz.func95,Tryz.ntmps95;go_wp2_with fail;refine HC.mono ?_;rintro _ w1 ⟨rfl,hb⟩;have HB:=hdq (Gg.trans hb);clear hb;go_wp2_with fail;go_ret;exact⟨by simp,HB.out⟩
def zc5 (p:ByteArray->(List Va)->Sts->Int->Bool)(xs:List Prc):Bool:=xs.all λx=>p x.nm x.params x.body x.at_
theorem zig {p:ByteArray->(List Va)->Sts->Int->Bool}{xs:List Prc}{i:Nat}{a0 a1 a2 a3 ar}(hd:xs.drop i=(⟨a0,a1,a2,a3⟩:Prc)::ar/\xs.drop (i+1)=ar):zc5 p (xs.drop i)=(p a0 a1 a2 a3&&zc5 p (xs.drop (i+1))):=by
 rw[hd.1,hd.2];rfl
def AskPr (g:Nat)(cap:Array Value)(w:World)(S:Nat->Prop)(Z:Prop)(p:ByteArray->(List Va)->Sts->Int->Bool)(xs:List Prc):Prop:=
 ∀(i:Nat)(a0:ByteArray)(a1:List Va)(a2:Sts)(a3:Int)(ar:List Prc),xs.drop i=(⟨a0,a1,a2,a3⟩:Prc)::ar->∀(W:World)(A1:Option Addr)(q1:Nat)(A2:Option Addr)(q2:Nat),Fr NoT w W->SlR (λb o=>VaR W S Z a1 b o) a1.length 24 A1 q1->SlR (λb o=>StR W S Z a2 b o) a2.len 128 A2 q2->Calls Tryz.prog g (#[.agg #[.string a0,.slice A1 a1.length q1,.slice A2 a2.len q2,.int .i64 a3]]++cap) W (zap (p a0 a1 a2 a3) W)
theorem AskPr.next {g:Nat}{cap:Array Value}{w w1:World}{S:Nat->Prop}{Z:Prop}{p:ByteArray->(List Va)->Sts->Int->Bool}{xs:List Prc}(h:AskPr g cap w S Z p xs)(hf:Fr NoT w w1):AskPr g cap w1 S Z p xs:=
 λi a0 a1 a2 a3 ar hd W A1 q1 A2 q2 hw s1 s2=>h i a0 a1 a2 a3 ar hd W A1 q1 A2 q2 (hf.trans hw) s1 s2
theorem idxPr (p:ByteArray->(List Va)->Sts->Int->Bool)(xs:List Prc)(A:Option Addr)(c:Nat)(g:Nat)(cap:Array Value)(w:World)(S:Nat->Prop)(Z:Prop)(hS:∀b,S b->b < w.heap.size)(hx:SlR (λb o=>PrR w S Z xs b o) xs.length 72 A c)(hent:Enters Tryz.prog g)(Hr:AskPr g cap w S Z (λa0 a1 a2 a3=> !(p a0 a1 a2 a3)) xs):
  Calls Tryz.prog 100 #[.slice A xs.length c,.func (.func g) #[] cap] w (IdxP (!(zc5 p xs)) w):=by
 have hl:xs.length<=9223372036854775807:=leq9 hx.1 hx.2.1.1;have HA:=hdq Hr;have HX:=hdq hx;have HS:=hdq hS;obtain⟨m,hm⟩:=nmq xs.length;rw[<-hm]at hl ⊢;have HM:=hdq hm;clear Hr hx hS hm;unfold Enters at hent;go_enter Tryz.func100,Tryz.ntmps100;go_wp2_with fail;go_loopw [8] (λi wr=>∃k:Nat,k<=m/\i= .int .i64 k/\Hid (Fr NoT w wr)/\Hid (zc5 p xs=zc5 p (xs.drop k))) (λi _=>m - (intOf i).toNat);case atStart=>exact⟨0,Nat.zero_le _,rfl,Fr.refl _ _,rfl⟩
 case round=>
  obtain⟨k,hk,rfl,hb,Ha⟩:=hrel;by_cases Hl:k < m
  ·obtain⟨⟨a0,a1,a2,a3⟩,ar,hd⟩:=zaB (show k < xs.length from by rw[<-HM.out];exact Hl);obtain⟨b,o,rfl,Hh⟩:=HX.2.2 (by rw[<-HM.out];omega);have Hm:=(PrR.keep (hb.same λb hb=>⟨HS b hb,id⟩) Hh).drop k;rw[hd.1]at Hm;obtain⟨⟨Gh,_,_,c0,c3⟩,⟨A1,q1,c1,s1⟩,⟨A2,q2,c2,s2⟩,_⟩:=Hm;have Jr:b < wr.heap.size:=ltq (HS _ Gh) hb.size;have GD:(k:Int) < (m:Int):=by omega
   have Fz:(0:Int)<=(k:Int):=by omega
   simp only at c0 c1 c2 c3 s1 s2;have HC:=hdq (HA k a0 a1 a2 a3 ar hd.1 wr A1 q1 A2 q2 hb.out s1 s2);have Gi:=hdq (Ha.trans (zig hd));have HB:=hdq hb.out;clear hd Hh Ha hb Gh s1 s2;go_wp2_with fail;refine HC.mono ?_;rintro _ w1 ⟨rfl,Gw⟩;have Gs:=hdq (HB.trans Gw);clear Gw c0 c1 c2 c3;cases hp:p a0 a1 a2 a3
   ·have HF:=hdq (show zc5 p xs=false from by rw[Gi.out,hp];rfl);clear hp Gi;go_wp2_with fail;go_ret;exact⟨k,by rw[HF.out];simp,rfl,Gs.out⟩
   ·have HN:=hdq (show zc5 p xs=zc5 p (xs.drop (k+1))from by rw[Gi.out,hp];rfl);clear hp Gi;go_wp2_with fail;go_roundw;case rel=>exact⟨k+1,by omega,by go_num,Gs.out,HN⟩
    case measure=>simp[intOf];omega
  ·have HF:=hdq (show zc5 p xs=true from by rw[Ha.out,List.drop_eq_nil_of_le (by rw[<-HM.out];omega)];rfl);have HB:=hdq hb.out;clear Ha hb;go_wp2_with fail;go_ret;exact⟨-1,by rw[HF.out];simp,rfl,HB.out⟩
theorem conPr (p:ByteArray->(List Va)->Sts->Int->Bool)(xs:List Prc)(A:Option Addr)(c:Nat)(g:Nat)(cap:Array Value)(w:World)(S:Nat->Prop)(Z:Prop)(hS:∀b,S b->b < w.heap.size)(hx:SlR (λb o=>PrR w S Z xs b o) xs.length 72 A c)(hent:Enters Tryz.prog g)(Hr:AskPr g cap w S Z (λa0 a1 a2 a3=> !(p a0 a1 a2 a3)) xs):
  Calls Tryz.prog 50 #[.slice A xs.length c,.func (.func g) #[] cap] w (zap (!(zc5 p xs)) w):=by
 have HC:=hdq (idxPr p xs A c g cap w S Z hS hx hent Hr);clear Hr hent hx hS;go_enter Tryz.func50,Tryz.ntmps50;go_wp2_with fail;refine HC.mono ?_;rintro e w1 ⟨n,hn,rfl,hb⟩;have HN:=hdq hn;have HB:=hdq hb;clear hn hb;go_wp2_with fail;go_ret;exact⟨by rw[<-HN.out];rfl,HB.out⟩
theorem clPr (p:ByteArray->(List Va)->Sts->Int->Bool)(xs:List Prc)(g:Nat)(cap:Array Value)(w:World)(S:Nat->Prop)(Z:Prop)(hS:∀b,S b->b < w.heap.size)(B:Nat)(Gm:Bk w B 144 #[.func (.func g) #[] cap])(hent:Enters Tryz.prog g)(Hr:AskPr g cap w S Z p xs):AskPr 174 #[.pointer (some ⟨B,0,none⟩)] w S Z (λa0 a1 a2 a3=> !(p a0 a1 a2 a3)) xs:=by
 intro i a0 a1 a2 a3 ar hd W A1 q1 A2 q2 hw s1 s2;have Hc:Fr NoT W (W.alloc (.cells #[.string a0,.slice A1 a1.length q1,.slice A2 a2.len q2,.int .i64 a3] 63)):=(Fr.refl _ _).alloc _;have HC:=hdq (Hr i a0 a1 a2 a3 ar hd _ A1 q1 A2 q2 (hw.trans Hc) (s1.imp λ_ _ hx=>VaR.keep (Hc.same λb hb=>⟨ltq (hS b hb) hw.size,id⟩) hx) (s2.imp λ_ _ hx=>StR.keep (Hc.same λb hb=>⟨ltq (hS b hb) hw.size,id⟩) hx));have hb:=Gm.fr0 hw;have c0:=hb.cell 0;have hl:=hb.lt;simp only[List.getElem?_toArray,List.getElem?_cons_zero]at c0;have Gg:=hdq Hc;clear Hr hd hw Hc hS Gm hb s1 s2;unfold Enters at hent;go_enter Tryz.func174,Tryz.ntmps174;go_wp2_with fail;refine HC.mono ?_;rintro _ w1 ⟨rfl,hb⟩;have HB:=hdq (Gg.trans hb);clear hb;go_wp2_with fail;go_ret;exact⟨rfl,HB.out⟩
theorem zju (p:ByteArray->(List Va)->Sts->Int->Bool)(xs:List Prc)(A:Option Addr)(c:Nat)(g:Nat)(cap:Array Value)(w:World)(S:Nat->Prop)(Z:Prop)(hS:∀b,S b->b < w.heap.size)(hx:SlR (λb o=>PrR w S Z xs b o) xs.length 72 A c)(hent:Enters Tryz.prog g)(Hr:AskPr g cap w S Z p xs):
  Calls Tryz.prog 97 #[.slice A xs.length c,.func (.func g) #[] cap] w (zap (zc5 p xs) w):=by
 have Jt:= @makeF Tryz.prog;have Hc:Fr NoT w (w.alloc (.cells #[.func (.func g) #[] cap] 144)):=(Fr.refl _ _).alloc _;have Kg:∀b,S b->b < (w.alloc (.cells #[.func (.func g) #[] cap] 144)).heap.size :=λb hb=>ltq (hS b hb) Hc.size;have HC:=hdq (conPr p xs A c 174 #[.pointer (some ⟨w.heap.size,0,none⟩)] _ S Z Kg (hx.imp λ_ _ hx=>PrR.keep (Hc.same λb hb=>⟨hS b hb,id⟩) hx) (enters_of Tryz.func174 (by kernel_rfl) rfl)
  (clPr p xs g cap _ S Z Kg w.heap.size (Bk.new _ _ _) hent (Hr.next Hc)))
 have Gg:=hdq Hc;clear Hr hent hx hS Kg Hc;go_enter Tryz.func97,Tryz.ntmps97;go_wp2_with fail;refine HC.mono ?_;rintro _ w1 ⟨rfl,hb⟩;have HB:=hdq (Gg.trans hb);clear hb;go_wp2_with fail;go_ret;exact⟨by simp,HB.out⟩
def zcI (p:Int->ByteArray->Int->Exs->Int->Bool):Exs->Bool
 | .nil =>true
 | .cons a0 a1 a2 a3 a4 ar=>p a0 a1 a2 a3 a4&&zcI p ar
theorem zih {p:Int->ByteArray->Int->Exs->Int->Bool}{xs:Exs}{i:Nat}{a0 a1 a2 a3 a4 ar}(hd:Exs.drop i xs= .cons a0 a1 a2 a3 a4 ar):zcI p (Exs.drop i xs)=(p a0 a1 a2 a3 a4&&zcI p (Exs.drop (i+1) xs)):=by
 rw[Exs.drop_succ i xs hd,hd];rfl
def AskEx (g:Nat)(cap:Array Value)(w:World)(S:Nat->Prop)(Z:Prop)(p:Int->ByteArray->Int->Exs->Int->Bool)(xs:Exs):Prop:=
 ∀(i:Nat)(a0:Int)(a1:ByteArray)(a2:Int)(a3:Exs)(a4:Int)(ar:Exs),Exs.drop i xs= .cons a0 a1 a2 a3 a4 ar->in8 a0->in64 a2->∀(W:World)(A3:Option Addr)(q3:Nat),Fr NoT w W->SlR (λb o=>ExR W S Z a3 b o) a3.len 64 A3 q3->Calls Tryz.prog g (#[.agg #[.int .u8 a0,.string a1,.int .i64 a2,.slice A3 a3.len q3,.int .i64 a4]]++cap) W (zap (p a0 a1 a2 a3 a4) W)
theorem AskEx.next {g:Nat}{cap:Array Value}{w w1:World}{S:Nat->Prop}{Z:Prop}{p:Int->ByteArray->Int->Exs->Int->Bool}{xs:Exs}(h:AskEx g cap w S Z p xs)(hf:Fr NoT w w1):AskEx g cap w1 S Z p xs:=
 λi a0 a1 a2 a3 a4 ar hd r0 r1 W A3 q3 hw s3=>h i a0 a1 a2 a3 a4 ar hd r0 r1 W A3 q3 (hf.trans hw) s3
theorem idxEx (p:Int->ByteArray->Int->Exs->Int->Bool)(xs:Exs)(A:Option Addr)(c:Nat)(g:Nat)(cap:Array Value)(w:World)(S:Nat->Prop)(Z:Prop)(hS:∀b,S b->b < w.heap.size)(hx:SlR (λb o=>ExR w S Z xs b o) xs.len 64 A c)(hent:Enters Tryz.prog g)(Hr:AskEx g cap w S Z (λa0 a1 a2 a3 a4=> !(p a0 a1 a2 a3 a4)) xs):
  Calls Tryz.prog 215 #[.slice A xs.len c,.func (.func g) #[] cap] w (IdxP (!(zcI p xs)) w):=by
 have hl:xs.len<=9223372036854775807:=leq9 hx.1 hx.2.1.1;have HA:=hdq Hr;have HX:=hdq hx;have HS:=hdq hS;obtain⟨m,hm⟩:=nmq xs.len;rw[<-hm]at hl ⊢;have HM:=hdq hm;clear Hr hx hS hm;unfold Enters at hent;go_enter Tryz.func215,Tryz.ntmps215;go_wp2_with fail;go_loopw [8] (λi wr=>∃k:Nat,k<=m/\i= .int .i64 k/\Hid (Fr NoT w wr)/\Hid (zcI p xs=zcI p (Exs.drop k xs))) (λi _=>m - (intOf i).toNat);case atStart=>exact⟨0,Nat.zero_le _,rfl,Fr.refl _ _,rfl⟩
 case round=>
  obtain⟨k,hk,rfl,hb,Ha⟩:=hrel;by_cases Hl:k < m
  ·obtain⟨a0,a1,a2,a3,a4,ar,hd⟩:=Exs.drop_cons (show k < xs.len from by rw[<-HM.out];exact Hl);obtain⟨b,o,rfl,Hh⟩:=HX.2.2 (by rw[<-HM.out];omega);have Hm:=(ExR.keep (hb.same λb hb=>⟨HS b hb,id⟩) Hh).drop k;rw[hd]at Hm;obtain⟨⟨Gh,_,r0,r1,_,c0,c1,c2,c4⟩,⟨A3,q3,c3,s3⟩,_⟩:=Hm;have Jr:b < wr.heap.size:=ltq (HS _ Gh) hb.size;have GD:(k:Int) < (m:Int):=by omega
   have Fz:(0:Int)<=(k:Int):=by omega
   have HC:=hdq (HA k a0 a1 a2 a3 a4 ar hd r0 r1 wr A3 q3 hb.out s3);have Gi:=hdq (Ha.trans (zih hd));have HB:=hdq hb.out;clear hd Hh Ha hb Gh s3 r0 r1;go_wp2_with fail;refine HC.mono ?_;rintro _ w1 ⟨rfl,Gw⟩;have Gs:=hdq (HB.trans Gw);clear Gw c0 c1 c2 c3 c4;cases hp:p a0 a1 a2 a3 a4
   ·have HF:=hdq (show zcI p xs=false from by rw[Gi.out,hp];rfl);clear hp Gi;go_wp2_with fail;go_ret;exact⟨k,by rw[HF.out];simp,rfl,Gs.out⟩
   ·have HN:=hdq (show zcI p xs=zcI p (Exs.drop (k+1) xs)from by rw[Gi.out,hp];rfl);clear hp Gi;go_wp2_with fail;go_roundw;case rel=>exact⟨k+1,by omega,by go_num,Gs.out,HN⟩
    case measure=>simp[intOf];omega
  ·have HF:=hdq (show zcI p xs=true from by rw[Ha.out,Exs.drop_nil (by rw[<-HM.out];omega)];rfl);have HB:=hdq hb.out;clear Ha hb;go_wp2_with fail;go_ret;exact⟨-1,by rw[HF.out];simp,rfl,HB.out⟩
theorem conEx (p:Int->ByteArray->Int->Exs->Int->Bool)(xs:Exs)(A:Option Addr)(c:Nat)(g:Nat)(cap:Array Value)(w:World)(S:Nat->Prop)(Z:Prop)(hS:∀b,S b->b < w.heap.size)(hx:SlR (λb o=>ExR w S Z xs b o) xs.len 64 A c)(hent:Enters Tryz.prog g)(Hr:AskEx g cap w S Z (λa0 a1 a2 a3 a4=> !(p a0 a1 a2 a3 a4)) xs):
  Calls Tryz.prog 151 #[.slice A xs.len c,.func (.func g) #[] cap] w (zap (!(zcI p xs)) w):=by
 have HC:=hdq (idxEx p xs A c g cap w S Z hS hx hent Hr);clear Hr hent hx hS;go_enter Tryz.func151,Tryz.ntmps151;go_wp2_with fail;refine HC.mono ?_;rintro e w1 ⟨n,hn,rfl,hb⟩;have HN:=hdq hn;have HB:=hdq hb;clear hn hb;go_wp2_with fail;go_ret;exact⟨by rw[<-HN.out];rfl,HB.out⟩
theorem clEx (p:Int->ByteArray->Int->Exs->Int->Bool)(xs:Exs)(g:Nat)(cap:Array Value)(w:World)(S:Nat->Prop)(Z:Prop)(hS:∀b,S b->b < w.heap.size)(B:Nat)(Gm:Bk w B 259 #[.func (.func g) #[] cap])(hent:Enters Tryz.prog g)(Hr:AskEx g cap w S Z p xs):AskEx 221 #[.pointer (some ⟨B,0,none⟩)] w S Z (λa0 a1 a2 a3 a4=> !(p a0 a1 a2 a3 a4)) xs:=by
 intro i a0 a1 a2 a3 a4 ar hd r0 r1 W A3 q3 hw s3;have Hc:Fr NoT W (W.alloc (.cells #[.int .u8 a0,.string a1,.int .i64 a2,.slice A3 a3.len q3,.int .i64 a4] 175)):=(Fr.refl _ _).alloc _;have HC:=hdq (Hr i a0 a1 a2 a3 a4 ar hd r0 r1 _ A3 q3 (hw.trans Hc) (s3.imp λ_ _ hx=>ExR.keep (Hc.same λb hb=>⟨ltq (hS b hb) hw.size,id⟩) hx));have hb:=Gm.fr0 hw;have c0:=hb.cell 0;have hl:=hb.lt;simp only[List.getElem?_toArray,List.getElem?_cons_zero]at c0;have Gg:=hdq Hc;clear Hr hd hw Hc hS Gm hb s3 r0 r1;unfold Enters at hent;go_enter Tryz.func221,Tryz.ntmps221;go_wp2_with fail;refine HC.mono ?_;rintro _ w1 ⟨rfl,hb⟩;have HB:=hdq (Gg.trans hb);clear hb;go_wp2_with fail;go_ret;exact⟨rfl,HB.out⟩
theorem zf3 (p:Int->ByteArray->Int->Exs->Int->Bool)(xs:Exs)(A:Option Addr)(c:Nat)(g:Nat)(cap:Array Value)(w:World)(S:Nat->Prop)(Z:Prop)(hS:∀b,S b->b < w.heap.size)(hx:SlR (λb o=>ExR w S Z xs b o) xs.len 64 A c)(hent:Enters Tryz.prog g)(Hr:AskEx g cap w S Z p xs):
  Calls Tryz.prog 168 #[.slice A xs.len c,.func (.func g) #[] cap] w (zap (zcI p xs) w):=by
 have Jt:= @makeF Tryz.prog;have Hc:Fr NoT w (w.alloc (.cells #[.func (.func g) #[] cap] 259)):=(Fr.refl _ _).alloc _;have Kg:∀b,S b->b < (w.alloc (.cells #[.func (.func g) #[] cap] 259)).heap.size :=λb hb=>ltq (hS b hb) Hc.size;have HC:=hdq (conEx p xs A c 221 #[.pointer (some ⟨w.heap.size,0,none⟩)] _ S Z Kg (hx.imp λ_ _ hx=>ExR.keep (Hc.same λb hb=>⟨hS b hb,id⟩) hx) (enters_of Tryz.func221 (by kernel_rfl) rfl)
  (clEx p xs g cap _ S Z Kg w.heap.size (Bk.new _ _ _) hent (Hr.next Hc)))
 have Gg:=hdq Hc;clear Hr hent hx hS Kg Hc;go_enter Tryz.func168,Tryz.ntmps168;go_wp2_with fail;refine HC.mono ?_;rintro _ w1 ⟨rfl,hb⟩;have HB:=hdq (Gg.trans hb);clear hb;go_wp2_with fail;go_ret;exact⟨by simp,HB.out⟩
def zcJ (p:Int->Exs->Cds->Int->Bool):Cds->Bool
 | .nil =>true
 | .cons a0 a1 a2 a3 ar=>p a0 a1 a2 a3&&zcJ p ar
theorem zii {p:Int->Exs->Cds->Int->Bool}{xs:Cds}{i:Nat}{a0 a1 a2 a3 ar}(hd:Cds.drop i xs= .cons a0 a1 a2 a3 ar):zcJ p (Cds.drop i xs)=(p a0 a1 a2 a3&&zcJ p (Cds.drop (i+1) xs)):=by
 rw[Cds.drop_succ i xs hd,hd];rfl
def AskCd (g:Nat)(cap:Array Value)(w:World)(S:Nat->Prop)(Z:Prop)(p:Int->Exs->Cds->Int->Bool)(xs:Cds):Prop:=
 ∀(i:Nat)(a0:Int)(a1:Exs)(a2:Cds)(a3:Int)(ar:Cds),Cds.drop i xs= .cons a0 a1 a2 a3 ar->in8 a0->∀(W:World)(A1:Option Addr)(q1:Nat)(A2:Option Addr)(q2:Nat),Fr NoT w W->SlR (λb o=>ExR W S Z a1 b o) a1.len 64 A1 q1->SlR (λb o=>CdR W S Z a2 b o) a2.len 64 A2 q2->Calls Tryz.prog g (#[.agg #[.int .u8 a0,.slice A1 a1.len q1,.slice A2 a2.len q2,.int .i64 a3]]++cap) W (zap (p a0 a1 a2 a3) W)
theorem AskCd.next {g:Nat}{cap:Array Value}{w w1:World}{S:Nat->Prop}{Z:Prop}{p:Int->Exs->Cds->Int->Bool}{xs:Cds}(h:AskCd g cap w S Z p xs)(hf:Fr NoT w w1):AskCd g cap w1 S Z p xs:=
 λi a0 a1 a2 a3 ar hd r0 W A1 q1 A2 q2 hw s1 s2=>h i a0 a1 a2 a3 ar hd r0 W A1 q1 A2 q2 (hf.trans hw) s1 s2
theorem idxCd (p:Int->Exs->Cds->Int->Bool)(xs:Cds)(A:Option Addr)(c:Nat)(g:Nat)(cap:Array Value)(w:World)(S:Nat->Prop)(Z:Prop)(hS:∀b,S b->b < w.heap.size)(hx:SlR (λb o=>CdR w S Z xs b o) xs.len 64 A c)(hent:Enters Tryz.prog g)(Hr:AskCd g cap w S Z (λa0 a1 a2 a3=> !(p a0 a1 a2 a3)) xs):
  Calls Tryz.prog 264 #[.slice A xs.len c,.func (.func g) #[] cap] w (IdxP (!(zcJ p xs)) w):=by
 have hl:xs.len<=9223372036854775807:=leq9 hx.1 hx.2.1.1;have HA:=hdq Hr;have HX:=hdq hx;have HS:=hdq hS;obtain⟨m,hm⟩:=nmq xs.len;rw[<-hm]at hl ⊢;have HM:=hdq hm;clear Hr hx hS hm;unfold Enters at hent;go_enter Tryz.func264,Tryz.ntmps264;go_wp2_with fail;go_loopw [8] (λi wr=>∃k:Nat,k<=m/\i= .int .i64 k/\Hid (Fr NoT w wr)/\Hid (zcJ p xs=zcJ p (Cds.drop k xs))) (λi _=>m - (intOf i).toNat);case atStart=>exact⟨0,Nat.zero_le _,rfl,Fr.refl _ _,rfl⟩
 case round=>
  obtain⟨k,hk,rfl,hb,Ha⟩:=hrel;by_cases Hl:k < m
  ·obtain⟨a0,a1,a2,a3,ar,hd⟩:=Cds.drop_cons (show k < xs.len from by rw[<-HM.out];exact Hl);obtain⟨b,o,rfl,Hh⟩:=HX.2.2 (by rw[<-HM.out];omega);have Hm:=(CdR.keep (hb.same λb hb=>⟨HS b hb,id⟩) Hh).drop k;rw[hd]at Hm;obtain⟨⟨Gh,_,r0,_,c0,c3⟩,⟨A1,q1,c1,s1⟩,⟨A2,q2,c2,s2⟩,_⟩:=Hm;have Jr:b < wr.heap.size:=ltq (HS _ Gh) hb.size;have GD:(k:Int) < (m:Int):=by omega
   have Fz:(0:Int)<=(k:Int):=by omega
   have HC:=hdq (HA k a0 a1 a2 a3 ar hd r0 wr A1 q1 A2 q2 hb.out s1 s2);have Gi:=hdq (Ha.trans (zii hd));have HB:=hdq hb.out;clear hd Hh Ha hb Gh s1 s2 r0;go_wp2_with fail;refine HC.mono ?_;rintro _ w1 ⟨rfl,Gw⟩;have Gs:=hdq (HB.trans Gw);clear Gw c0 c1 c2 c3;cases hp:p a0 a1 a2 a3
   ·have HF:=hdq (show zcJ p xs=false from by rw[Gi.out,hp];rfl);clear hp Gi;go_wp2_with fail;go_ret;exact⟨k,by rw[HF.out];simp,rfl,Gs.out⟩
   ·have HN:=hdq (show zcJ p xs=zcJ p (Cds.drop (k+1) xs)from by rw[Gi.out,hp];rfl);clear hp Gi;go_wp2_with fail;go_roundw;case rel=>exact⟨k+1,by omega,by go_num,Gs.out,HN⟩
    case measure=>simp[intOf];omega
  ·have HF:=hdq (show zcJ p xs=true from by rw[Ha.out,Cds.drop_nil (by rw[<-HM.out];omega)];rfl);have HB:=hdq hb.out;clear Ha hb;go_wp2_with fail;go_ret;exact⟨-1,by rw[HF.out];simp,rfl,HB.out⟩
theorem conCd (p:Int->Exs->Cds->Int->Bool)(xs:Cds)(A:Option Addr)(c:Nat)(g:Nat)(cap:Array Value)(w:World)(S:Nat->Prop)(Z:Prop)(hS:∀b,S b->b < w.heap.size)(hx:SlR (λb o=>CdR w S Z xs b o) xs.len 64 A c)(hent:Enters Tryz.prog g)(Hr:AskCd g cap w S Z (λa0 a1 a2 a3=> !(p a0 a1 a2 a3)) xs):
  Calls Tryz.prog 223 #[.slice A xs.len c,.func (.func g) #[] cap] w (zap (!(zcJ p xs)) w):=by
 have HC:=hdq (idxCd p xs A c g cap w S Z hS hx hent Hr);clear Hr hent hx hS;go_enter Tryz.func223,Tryz.ntmps223;go_wp2_with fail;refine HC.mono ?_;rintro e w1 ⟨n,hn,rfl,hb⟩;have HN:=hdq hn;have HB:=hdq hb;clear hn hb;go_wp2_with fail;go_ret;exact⟨by rw[<-HN.out];rfl,HB.out⟩
theorem clCd (p:Int->Exs->Cds->Int->Bool)(xs:Cds)(g:Nat)(cap:Array Value)(w:World)(S:Nat->Prop)(Z:Prop)(hS:∀b,S b->b < w.heap.size)(B:Nat)(Gm:Bk w B 275 #[.func (.func g) #[] cap])(hent:Enters Tryz.prog g)(Hr:AskCd g cap w S Z p xs):AskCd 224 #[.pointer (some ⟨B,0,none⟩)] w S Z (λa0 a1 a2 a3=> !(p a0 a1 a2 a3)) xs:=by
 intro i a0 a1 a2 a3 ar hd r0 W A1 q1 A2 q2 hw s1 s2;have Hc:Fr NoT W (W.alloc (.cells #[.int .u8 a0,.slice A1 a1.len q1,.slice A2 a2.len q2,.int .i64 a3] 179)):=(Fr.refl _ _).alloc _;have HC:=hdq (Hr i a0 a1 a2 a3 ar hd r0 _ A1 q1 A2 q2 (hw.trans Hc) (s1.imp λ_ _ hx=>ExR.keep (Hc.same λb hb=>⟨ltq (hS b hb) hw.size,id⟩) hx) (s2.imp λ_ _ hx=>CdR.keep (Hc.same λb hb=>⟨ltq (hS b hb) hw.size,id⟩) hx));have hb:=Gm.fr0 hw;have c0:=hb.cell 0;have hl:=hb.lt;simp only[List.getElem?_toArray,List.getElem?_cons_zero]at c0;have Gg:=hdq Hc;clear Hr hd hw Hc hS Gm hb s1 s2 r0;unfold Enters at hent;go_enter Tryz.func224,Tryz.ntmps224;go_wp2_with fail;refine HC.mono ?_;rintro _ w1 ⟨rfl,hb⟩;have HB:=hdq (Gg.trans hb);clear hb;go_wp2_with fail;go_ret;exact⟨rfl,HB.out⟩
theorem zf4 (p:Int->Exs->Cds->Int->Bool)(xs:Cds)(A:Option Addr)(c:Nat)(g:Nat)(cap:Array Value)(w:World)(S:Nat->Prop)(Z:Prop)(hS:∀b,S b->b < w.heap.size)(hx:SlR (λb o=>CdR w S Z xs b o) xs.len 64 A c)(hent:Enters Tryz.prog g)(Hr:AskCd g cap w S Z p xs):
  Calls Tryz.prog 170 #[.slice A xs.len c,.func (.func g) #[] cap] w (zap (zcJ p xs) w):=by
 have Jt:= @makeF Tryz.prog;have Hc:Fr NoT w (w.alloc (.cells #[.func (.func g) #[] cap] 275)):=(Fr.refl _ _).alloc _;have Kg:∀b,S b->b < (w.alloc (.cells #[.func (.func g) #[] cap] 275)).heap.size :=λb hb=>ltq (hS b hb) Hc.size;have HC:=hdq (conCd p xs A c 224 #[.pointer (some ⟨w.heap.size,0,none⟩)] _ S Z Kg (hx.imp λ_ _ hx=>CdR.keep (Hc.same λb hb=>⟨hS b hb,id⟩) hx) (enters_of Tryz.func224 (by kernel_rfl) rfl)
  (clCd p xs g cap _ S Z Kg w.heap.size (Bk.new _ _ _) hent (Hr.next Hc)))
 have Gg:=hdq Hc;clear Hr hent hx hS Kg Hc;go_enter Tryz.func170,Tryz.ntmps170;go_wp2_with fail;refine HC.mono ?_;rintro _ w1 ⟨rfl,hb⟩;have HB:=hdq (Gg.trans hb);clear hb;go_wp2_with fail;go_ret;exact⟨by simp,HB.out⟩
def zcK (p:Int->ByteArray->Exs->Cds->Sts->Sts->Int->Bool):Sts->Bool
 | .nil =>true
 | .cons a0 a1 a2 a3 a4 a5 a6 ar=>p a0 a1 a2 a3 a4 a5 a6&&zcK p ar
theorem zij {p:Int->ByteArray->Exs->Cds->Sts->Sts->Int->Bool}{xs:Sts}{i:Nat}{a0 a1 a2 a3 a4 a5 a6 ar}(hd:Sts.drop i xs= .cons a0 a1 a2 a3 a4 a5 a6 ar):zcK p (Sts.drop i xs)=(p a0 a1 a2 a3 a4 a5 a6&&zcK p (Sts.drop (i+1) xs)):=by
 rw[Sts.drop_succ i xs hd,hd];rfl
def AskSt (g:Nat)(cap:Array Value)(w:World)(S:Nat->Prop)(Z:Prop)(p:Int->ByteArray->Exs->Cds->Sts->Sts->Int->Bool)(xs:Sts):Prop:=
 ∀(i:Nat)(a0:Int)(a1:ByteArray)(a2:Exs)(a3:Cds)(a4:Sts)(a5:Sts)(a6:Int)(ar:Sts),Sts.drop i xs= .cons a0 a1 a2 a3 a4 a5 a6 ar->in8 a0->∀(W:World)(A2:Option Addr)(q2:Nat)(A3:Option Addr)(q3:Nat)(A4:Option Addr)(q4:Nat)(A5:Option Addr)(q5:Nat),Fr NoT w W->SlR (λb o=>ExR W S Z a2 b o) a2.len 64 A2 q2->SlR (λb o=>CdR W S Z a3 b o) a3.len 64 A3 q3->SlR (λb o=>StR W S Z a4 b o) a4.len 128 A4 q4->SlR (λb o=>StR W S Z a5 b o) a5.len 128 A5 q5->Calls Tryz.prog g (#[.agg #[.int .u8 a0,.string a1,.slice A2 a2.len q2,.slice A3 a3.len q3,.slice A4 a4.len q4,.slice A5 a5.len q5,.int .i64 a6]]++cap) W (zap (p a0 a1 a2 a3 a4 a5 a6) W)
theorem AskSt.next {g:Nat}{cap:Array Value}{w w1:World}{S:Nat->Prop}{Z:Prop}{p:Int->ByteArray->Exs->Cds->Sts->Sts->Int->Bool}{xs:Sts}(h:AskSt g cap w S Z p xs)(hf:Fr NoT w w1):AskSt g cap w1 S Z p xs:=
 λi a0 a1 a2 a3 a4 a5 a6 ar hd r0 W A2 q2 A3 q3 A4 q4 A5 q5 hw s2 s3 s4 s5=>h i a0 a1 a2 a3 a4 a5 a6 ar hd r0 W A2 q2 A3 q3 A4 q4 A5 q5 (hf.trans hw) s2 s3 s4 s5
theorem idxSt (p:Int->ByteArray->Exs->Cds->Sts->Sts->Int->Bool)(xs:Sts)(A:Option Addr)(c:Nat)(g:Nat)(cap:Array Value)(w:World)(S:Nat->Prop)(Z:Prop)(hS:∀b,S b->b < w.heap.size)(hx:SlR (λb o=>StR w S Z xs b o) xs.len 128 A c)(hent:Enters Tryz.prog g)(Hr:AskSt g cap w S Z (λa0 a1 a2 a3 a4 a5 a6=> !(p a0 a1 a2 a3 a4 a5 a6)) xs):
  Calls Tryz.prog 220 #[.slice A xs.len c,.func (.func g) #[] cap] w (IdxP (!(zcK p xs)) w):=by
 have hl:xs.len<=9223372036854775807:=leq9 hx.1 hx.2.1.1;have HA:=hdq Hr;have HX:=hdq hx;have HS:=hdq hS;obtain⟨m,hm⟩:=nmq xs.len;rw[<-hm]at hl ⊢;have HM:=hdq hm;clear Hr hx hS hm;unfold Enters at hent;go_enter Tryz.func220,Tryz.ntmps220;go_wp2_with fail;go_loopw [8] (λi wr=>∃k:Nat,k<=m/\i= .int .i64 k/\Hid (Fr NoT w wr)/\Hid (zcK p xs=zcK p (Sts.drop k xs))) (λi _=>m - (intOf i).toNat);case atStart=>exact⟨0,Nat.zero_le _,rfl,Fr.refl _ _,rfl⟩
 case round=>
  obtain⟨k,hk,rfl,hb,Ha⟩:=hrel;by_cases Hl:k < m
  ·obtain⟨a0,a1,a2,a3,a4,a5,a6,ar,hd⟩:=Sts.drop_cons (show k < xs.len from by rw[<-HM.out];exact Hl);obtain⟨b,o,rfl,Hh⟩:=HX.2.2 (by rw[<-HM.out];omega);have Hm:=(StR.keep (hb.same λb hb=>⟨HS b hb,id⟩) Hh).drop k;rw[hd]at Hm;obtain⟨⟨Gh,_,r0,_,c0,c1,c6⟩,⟨A2,q2,c2,s2⟩,⟨A3,q3,c3,s3⟩,⟨A4,q4,c4,s4⟩,⟨A5,q5,c5,s5⟩,_⟩:=Hm;have Jr:b < wr.heap.size:=ltq (HS _ Gh) hb.size;have GD:(k:Int) < (m:Int):=by omega
   have Fz:(0:Int)<=(k:Int):=by omega
   have HC:=hdq (HA k a0 a1 a2 a3 a4 a5 a6 ar hd r0 wr A2 q2 A3 q3 A4 q4 A5 q5 hb.out s2 s3 s4 s5);have Gi:=hdq (Ha.trans (zij hd));have HB:=hdq hb.out;clear hd Hh Ha hb Gh s2 s3 s4 s5 r0;go_wp2_with fail;refine HC.mono ?_;rintro _ w1 ⟨rfl,Gw⟩;have Gs:=hdq (HB.trans Gw);clear Gw c0 c1 c2 c3 c4 c5 c6;cases hp:p a0 a1 a2 a3 a4 a5 a6
   ·have HF:=hdq (show zcK p xs=false from by rw[Gi.out,hp];rfl);clear hp Gi;go_wp2_with fail;go_ret;exact⟨k,by rw[HF.out];simp,rfl,Gs.out⟩
   ·have HN:=hdq (show zcK p xs=zcK p (Sts.drop (k+1) xs)from by rw[Gi.out,hp];rfl);clear hp Gi;go_wp2_with fail;go_roundw;case rel=>exact⟨k+1,by omega,by go_num,Gs.out,HN⟩
    case measure=>simp[intOf];omega
  ·have HF:=hdq (show zcK p xs=true from by rw[Ha.out,Sts.drop_nil (by rw[<-HM.out];omega)];rfl);have HB:=hdq hb.out;clear Ha hb;go_wp2_with fail;go_ret;exact⟨-1,by rw[HF.out];simp,rfl,HB.out⟩
theorem conSt (p:Int->ByteArray->Exs->Cds->Sts->Sts->Int->Bool)(xs:Sts)(A:Option Addr)(c:Nat)(g:Nat)(cap:Array Value)(w:World)(S:Nat->Prop)(Z:Prop)(hS:∀b,S b->b < w.heap.size)(hx:SlR (λb o=>StR w S Z xs b o) xs.len 128 A c)(hent:Enters Tryz.prog g)(Hr:AskSt g cap w S Z (λa0 a1 a2 a3 a4 a5 a6=> !(p a0 a1 a2 a3 a4 a5 a6)) xs):
  Calls Tryz.prog 164 #[.slice A xs.len c,.func (.func g) #[] cap] w (zap (!(zcK p xs)) w):=by
 have HC:=hdq (idxSt p xs A c g cap w S Z hS hx hent Hr);clear Hr hent hx hS;go_enter Tryz.func164,Tryz.ntmps164;go_wp2_with fail;refine HC.mono ?_;rintro e w1 ⟨n,hn,rfl,hb⟩;have HN:=hdq hn;have HB:=hdq hb;clear hn hb;go_wp2_with fail;go_ret;exact⟨by rw[<-HN.out];rfl,HB.out⟩
theorem clSt (p:Int->ByteArray->Exs->Cds->Sts->Sts->Int->Bool)(xs:Sts)(g:Nat)(cap:Array Value)(w:World)(S:Nat->Prop)(Z:Prop)(hS:∀b,S b->b < w.heap.size)(B:Nat)(Gm:Bk w B 212 #[.func (.func g) #[] cap])(hent:Enters Tryz.prog g)(Hr:AskSt g cap w S Z p xs):AskSt 165 #[.pointer (some ⟨B,0,none⟩)] w S Z (λa0 a1 a2 a3 a4 a5 a6=> !(p a0 a1 a2 a3 a4 a5 a6)) xs:=by
 intro i a0 a1 a2 a3 a4 a5 a6 ar hd r0 W A2 q2 A3 q3 A4 q4 A5 q5 hw s2 s3 s4 s5;have Hc:Fr NoT W (W.alloc (.cells #[.int .u8 a0,.string a1,.slice A2 a2.len q2,.slice A3 a3.len q3,.slice A4 a4.len q4,.slice A5 a5.len q5,.int .i64 a6] 51)):=(Fr.refl _ _).alloc _;have HC:=hdq (Hr i a0 a1 a2 a3 a4 a5 a6 ar hd r0 _ A2 q2 A3 q3 A4 q4 A5 q5 (hw.trans Hc) (s2.imp λ_ _ hx=>ExR.keep (Hc.same λb hb=>⟨ltq (hS b hb) hw.size,id⟩) hx) (s3.imp λ_ _ hx=>CdR.keep (Hc.same λb hb=>⟨ltq (hS b hb) hw.size,id⟩) hx) (s4.imp λ_ _ hx=>StR.keep (Hc.same λb hb=>⟨ltq (hS b hb) hw.size,id⟩) hx) (s5.imp λ_ _ hx=>StR.keep (Hc.same λb hb=>⟨ltq (hS b hb) hw.size,id⟩) hx));have hb:=Gm.fr0 hw;have c0:=hb.cell 0;have hl:=hb.lt;simp only[List.getElem?_toArray,List.getElem?_cons_zero]at c0;have Gg:=hdq Hc;clear Hr hd hw Hc hS Gm hb s2 s3 s4 s5 r0;unfold Enters at hent;go_enter Tryz.func165,Tryz.ntmps165;go_wp2_with fail;refine HC.mono ?_;rintro _ w1 ⟨rfl,hb⟩;have HB:=hdq (Gg.trans hb);clear hb;go_wp2_with fail;go_ret;exact⟨rfl,HB.out⟩
theorem zdZ (p:Int->ByteArray->Exs->Cds->Sts->Sts->Int->Bool)(xs:Sts)(A:Option Addr)(c:Nat)(g:Nat)(cap:Array Value)(w:World)(S:Nat->Prop)(Z:Prop)(hS:∀b,S b->b < w.heap.size)(hx:SlR (λb o=>StR w S Z xs b o) xs.len 128 A c)(hent:Enters Tryz.prog g)(Hr:AskSt g cap w S Z p xs):
  Calls Tryz.prog 93 #[.slice A xs.len c,.func (.func g) #[] cap] w (zap (zcK p xs) w):=by
 have Jt:= @makeF Tryz.prog;have Hc:Fr NoT w (w.alloc (.cells #[.func (.func g) #[] cap] 212)):=(Fr.refl _ _).alloc _;have Kg:∀b,S b->b < (w.alloc (.cells #[.func (.func g) #[] cap] 212)).heap.size :=λb hb=>ltq (hS b hb) Hc.size;have HC:=hdq (conSt p xs A c 165 #[.pointer (some ⟨w.heap.size,0,none⟩)] _ S Z Kg (hx.imp λ_ _ hx=>StR.keep (Hc.same λb hb=>⟨hS b hb,id⟩) hx) (enters_of Tryz.func165 (by kernel_rfl) rfl)
  (clSt p xs g cap _ S Z Kg w.heap.size (Bk.new _ _ _) hent (Hr.next Hc)))
 have Gg:=hdq Hc;clear Hr hent hx hS Kg Hc;go_enter Tryz.func93,Tryz.ntmps93;go_wp2_with fail;refine HC.mono ?_;rintro _ w1 ⟨rfl,hb⟩;have HB:=hdq (Gg.trans hb);clear hb;go_wp2_with fail;go_ret;exact⟨by simp,HB.out⟩
def shp (a o c:Int)(n:Bool):List Value:= [.int .i64 a,.int .i64 o,.int .i64 c,.bool n]
def zaQ:List (Int×Int×Int×Bool):= [(0,0,0,false),(0,0,0,false),(1,0,0,true),(2,0,0,true),(0,0,0,true),(0,0,1,false),(0,0,1,false),(0,0,1,false),(0,0,1,false),(-1,0,0,true)]
def zcs:List (Int×Int×Int×Bool):= [(0,0,0,false),(0,0,0,false),(0,0,0,true),(1,0,0,true),(1,0,0,false),(2,0,0,false),(2,0,0,false),(2,0,0,false),(2,0,0,false),(2,0,0,false),(2,0,0,false),(2,0,0,false)]
def zct:List (Int×Int×Int×Bool):= [(0,0,0,false),(0,0,0,false),(0,0,0,false),(2,0,0,false),(2,0,0,false),(2,0,0,false),(2,0,0,false),(2,0,0,false),(2,0,0,false),(0,1,0,false),(0,2,0,false),(0,2,0,false)]
def tabV (l:List (Int×Int×Int×Bool)):Value:= .agg (l.flatMap λx=>shp x.1 x.2.1 x.2.2.1 x.2.2.2).toArray
theorem zba (w:World):Calls Tryz.prog 166 #[] w λe w'=>e= .returned (tabV zaQ)/\Below w.heap.size w w':=by
 go_enter Tryz.func166,Tryz.ntmps166;go_wp2_with (first|(refine wpList_build rfl 271 _ rfl (by kernel_rfl) ?_)|(refine wpList_store_row rfl 271 _ _ rfl w.heap.size _ rfl rfl 271 _ (heap_alloc_new _ _) (by kernel_rfl) (by kernel_rfl) (by kernel_rfl) ?_));exact bodyPost_ret (results_cell_row (p:=0) (ty:=271) rfl _ _ w.heap.size 271 _ (0,0) _ rfl (setRow_heap _ _ _ _ _ _ (heap_alloc_new _ _)) Tryz.underlying271 rfl (by kernel_rfl)) rfl ⟨by kernel_rfl,zbu ((Below.refl _ _).alloc (lrq _) _) (lrq _) _⟩
theorem zf5 (w:World):Calls Tryz.prog 222 #[] w λe w'=>e= .returned (tabV zcs)/\Below w.heap.size w w':=by
 go_enter Tryz.func222,Tryz.ntmps222;go_wp2_with (first|(refine wpList_build rfl 312 _ rfl (by kernel_rfl) ?_)|(refine wpList_store_row rfl 312 _ _ rfl w.heap.size _ rfl rfl 312 _ ((Below.heap_alloc _ _ _ (by simp)).trans (heap_alloc_new _ _)) (by kernel_rfl) (by kernel_rfl) (by kernel_rfl) ?_));exact bodyPost_ret (results_cell_row (p:=0) (ty:=312) rfl _ _ w.heap.size 312 _ (0,0) _ rfl (setRow_heap _ _ _ _ _ _ ((Below.heap_alloc _ _ _ (by simp)).trans (heap_alloc_new _ _))) Tryz.underlying312 rfl (by kernel_rfl)) rfl ⟨by kernel_rfl,zbu (((Below.refl _ _).alloc (lrq _) _).alloc (by simp) _) (lrq _) _⟩
theorem zf6 (w:World):Calls Tryz.prog 225 #[] w λe w'=>e= .returned (tabV zct)/\Below w.heap.size w w':=by
 go_enter Tryz.func225,Tryz.ntmps225;go_wp2_with (first|(refine wpList_build rfl 312 _ rfl (by kernel_rfl) ?_)|(refine wpList_store_row rfl 312 _ _ rfl w.heap.size _ rfl rfl 312 _ ((Below.heap_alloc _ _ _ (by simp)).trans (heap_alloc_new _ _)) (by kernel_rfl) (by kernel_rfl) (by kernel_rfl) ?_));exact bodyPost_ret (results_cell_row (p:=0) (ty:=312) rfl _ _ w.heap.size 312 _ (0,0) _ rfl (setRow_heap _ _ _ _ _ _ ((Below.heap_alloc _ _ _ (by simp)).trans (heap_alloc_new _ _))) Tryz.underlying312 rfl (by kernel_rfl)) rfl ⟨by kernel_rfl,zbu (((Below.refl _ _).alloc (lrq _) _).alloc (by simp) _) (lrq _) _⟩
theorem zlz (k:Int)(h0:1<=k)(h1:k<=9):∃a o c b,zaQ[k.toNat]?=some (a,o,c,b)/\∀w,(Instr.index 271 (tabV zaQ) (.int .u8 k)).run Tryz.prog w= .ok (.agg #[.int .i64 a,.int .i64 o,.int .i64 c,.bool b]) w:=by
 have hk:k=1\/k=2\/k=3\/k=4\/k=5\/k=6\/k=7\/k=8\/k=9:=by omega
 rcases hk with rfl|rfl|rfl|rfl|rfl|rfl|rfl|rfl|rfl<;>exact⟨_,_,_,_,rfl,λ_=>by kernel_rfl⟩
theorem zlA (k:Int)(h0:1<=k)(h1:k<=11):∃a o c b,zcs[k.toNat]?=some (a,o,c,b)/\∀w,(Instr.index 312 (tabV zcs) (.int .u8 k)).run Tryz.prog w= .ok (.agg #[.int .i64 a,.int .i64 o,.int .i64 c,.bool b]) w:=by
 have hk:k=1\/k=2\/k=3\/k=4\/k=5\/k=6\/k=7\/k=8\/k=9\/k=10\/k=11:=by omega
 rcases hk with rfl|rfl|rfl|rfl|rfl|rfl|rfl|rfl|rfl|rfl|rfl<;>exact⟨_,_,_,_,rfl,λ_=>by kernel_rfl⟩
theorem zlB (k:Int)(h0:1<=k)(h1:k<=11):∃a o c b,zct[k.toNat]?=some (a,o,c,b)/\∀w,(Instr.index 312 (tabV zct) (.int .u8 k)).run Tryz.prog w= .ok (.agg #[.int .i64 a,.int .i64 o,.int .i64 c,.bool b]) w:=by
 have hk:k=1\/k=2\/k=3\/k=4\/k=5\/k=6\/k=7\/k=8\/k=9\/k=10\/k=11:=by omega
 rcases hk with rfl|rfl|rfl|rfl|rfl|rfl|rfl|rfl|rfl|rfl|rfl<;>exact⟨_,_,_,_,rfl,λ_=>by kernel_rfl⟩
def nmdB (is:Bool)(nm:ByteArray):Bool:=if is then zbj nm.data.toList else(nm.toList== [])
theorem zbq (is:Bool)(nm:ByteArray)(hs:nm.size<=9223372036854775807)(w:World)(he:SpEnv w):Calls Tryz.prog 167 #[.bool is,.string nm] w (zap (nmdB is nm) w):=by
 have H1:=hdq (zdM nm hs w he);clear he;cases is
 ·obtain⟨b,hb⟩:=nmq ((nm.toList== []));have e0:(⟨#[]⟩:ByteArray).toList = []:=by decide+kernel
  have HB:=hdq (show nmdB false nm=b from hb.symm);clear H1;cases b
  ·have e1:=hb.symm;clear hb;go_enter Tryz.func167,Tryz.ntmps167;go_wp2_with fail;go_ret;exact⟨by rw[HB.out];rfl,Fr.refl _ _⟩
  ·have e1:=hb.symm;clear hb;go_enter Tryz.func167,Tryz.ntmps167;go_wp2_with fail;go_ret;exact⟨by rw[HB.out];rfl,Fr.refl _ _⟩
 ·obtain⟨b,hb⟩:=nmq (zbj nm.data.toList);have HB:=hdq (show nmdB true nm=b from hb.symm);rw[<-hb]at H1;clear hb;cases b;all_goals
   go_enter Tryz.func167,Tryz.ntmps167;go_wp2_with fail;refine H1.mono ?_;rintro _ w1 ⟨rfl,hb⟩;have HF:=hdq (show Fr NoT w w1 from Fr.below hb);clear hb;go_wp2_with fail;go_ret;exact⟨by rw[HB.out];rfl,HF.out⟩
def tabA (l:List (Int×Int×Int×Bool))(k:Int):Int×Int×Int×Bool:=(l[k.toNat]?).getD (0,0,0,false)
def okX:Exs->Bool
 | .nil =>true
 | .cons k nm n args _ r=>(decide (1<=k)&&decide (k<=11)&&decide (0<=n)&&(decide (n<=0) || k==1)&&nmdB (tabA zcs k).2.2.2 nm&&((args.len:Int)==(tabA zcs k).1)&&okX args)&&okX r
def okE (k:Int)(nm:ByteArray)(n:Int)(args:Exs)(_:Int):Bool:=decide (1<=k)&&decide (k<=11)&&decide (0<=n)&&(decide (n<=0) || k==1)&&nmdB (tabA zcs k).2.2.2 nm&&((args.len:Int)==(tabA zcs k).1)&&okX args
theorem zgK:∀xs,zcI okE xs=okX xs
 | .nil =>rfl
 | .cons k nm n args at_ r=>by simp only[zcI,okX,okE,zgK r]
def szX:Exs->Prop
 | .nil =>True
 | .cons _ nm _ args _ r=>nm.size<=9223372036854775807/\szX args/\szX r
theorem zlC (k:Int)(nm:ByteArray)(n:Int)(at_:Int)(A:Option Addr)(l c:Nat)(r:Bool)(w:World)(he:SpEnv w)(hs:nm.size<=9223372036854775807)(hl:l<=9223372036854775807)
  (hc:∀W,Fr NoT w W->Calls Tryz.prog 168 #[.slice A l c,.func (.func 169) #[] #[]] W (zap r W)):
  Calls Tryz.prog 169 #[.agg #[.int .u8 k,.string nm,.int .i64 n,.slice A l c,.int .i64 at_]] w
   (zap (decide (1<=k)&&decide (k<=11)&&decide (0<=n)&&(decide (n<=0) || k==1)&&nmdB (tabA zcs k).2.2.2 nm&&((l:Int)==(tabA zcs k).1)&&r) w):=by
 obtain⟨R,hR⟩:=nmq ((decide (1<=k)&&decide (k<=11)&&decide (0<=n)&&(decide (n<=0) || k==1)&&nmdB (tabA zcs k).2.2.2 nm&&((l:Int)==(tabA zcs k).1)&&r));rw[<-hR];have HC:=hdq hc;have HE:=hdq he;have HS:=hdq hs;clear hc he hs;by_cases h1:1<=k
 rotate_left
 ·have HF:=hdq (show R=false from by rw[hR];simp[h1]);have e1:decide (k < 1)=true:=by simp;omega
  clear hR h1;go_enter Tryz.func169,Tryz.ntmps169;go_wp2_with fail;go_ret;exact⟨by rw[HF.out];rfl,(Fr.refl _ _).alloc _⟩
 by_cases h2:k<=11
 rotate_left
 ·have HF:=hdq (show R=false from by rw[hR];simp[h2]);have e1:decide (k < 1)=false:=by simp;omega
  have e2:decide (11 < k)=true:=by simp;omega
  clear hR h1 h2;go_enter Tryz.func169,Tryz.ntmps169;go_wp2_with fail;go_ret;exact⟨by rw[HF.out];rfl,(Fr.refl _ _).alloc _⟩
 obtain⟨a,o,c2,b,Nb,Fi⟩:=zlA k h1 h2;have Nc:tabA zcs k=(a,o,c2,b):=by unfold tabA;rw[Nb];rfl
 rw[Nc]at hR;simp only at hR;have e1:decide (k < 1)=false:=by simp;omega
 have e2:decide (11 < k)=false:=by simp;omega
 by_cases h3:0<=n
 rotate_left
 ·have HF:=hdq (show R=false from by rw[hR];simp[h3]);have e3:decide (n < 0)=true:=by simp;omega
  clear hR h1 h2 h3 Fi Nb Nc;go_enter Tryz.func169,Tryz.ntmps169;go_wp2_with fail;go_ret;exact⟨by rw[HF.out];rfl,(Fr.refl _ _).alloc _⟩
 have e3:decide (n < 0)=false:=by simp;omega
 by_cases h4:0 < n/\k≠1
 ·have HF:=hdq (show R=false from by
   rw[hR];have x1:decide (n<=0)=false:=by simp;omega
   have x2:(k==1)=false:=by simpa using h4.2
   rw[x1,x2];simp)
  have e4:decide (0 < n)=true:=by simpa using h4.1
  have e5:(k != 1)=true:=by simpa using h4.2
  clear hR h1 h2 h3 h4 Fi Nb Nc;go_enter Tryz.func169,Tryz.ntmps169;go_wp2_with fail;go_ret;exact⟨by rw[HF.out];rfl,(Fr.refl _ _).alloc _⟩
 have Lo:(decide (n<=0) || k==1)=true:=by
  by_cases h:n<=0
  ·simp[h]
  ·have:k=1:=by
    refine Decidable.byContradiction λhk=>h4 ⟨by omega,hk⟩
   simp[this]
 have G3:=hdq (show R=(nmdB b nm&&((l:Int)==a)&&r)from by
  have x1:decide (1<=k)=true:=by simpa using h1
  have x2:decide (k<=11)=true:=by simpa using h2
  have x3:decide (0<=n)=true:=by simpa using h3
  rw[hR,Lo,x1,x2,x3];simp)
 have hn:decide (0 < n)=false\/(decide (0 < n)=true/\(k != 1)=false):=by
  by_cases h:0 < n
  ·right
   refine⟨by simpa using h,?_⟩;have:k=1:=Decidable.byContradiction λhk=>h4 ⟨h,hk⟩;simp[this]
  ·left;simpa using h
 have LO:=hdq (λ(W:World)(h:Fr NoT w W)=>zbq b nm HS.out W (HE.keep h.plain));obtain⟨q,hq⟩:=nmq (nmdB b nm);rw[<-hq]at LO G3;have Gs:=hdq (Bk.new w 175 #[.int .u8 k,.string nm,.int .i64 n,.slice A l c,.int .i64 at_]);obtain⟨w1,Hc⟩:=nmq (w.alloc (.cells #[.int .u8 k,.string nm,.int .i64 n,.slice A l c,.int .i64 at_] 175));rw[<-Hc]at Gs;have Hs:=hdq (show Fr NoT w w1 from by rw[Hc];exact(Fr.refl _ _).alloc _);have Gg:=hdq Hc;clear hR h1 h2 h3 h4 Nb Nc Lo hq Hc;rcases hn with e4|⟨e4,e5⟩;all_goals
  go_enter Tryz.func169,Tryz.ntmps169
  go_upto_region 3 with fail
  rw[<-Gg.out];have yo:=Gs.cell 0;have Fo:=Gs.lt;simp only[getsL]at yo;go_cut [3] (λs3 wx=>∃P:Nat,s3= .pointer (some ⟨P,0,none⟩)/\Fr NoT w1 wx/\P < wx.heap.size/\wx.cell? ⟨P,0,none⟩=some (.int .i64 a)/\wx.cell? ⟨P,1,none⟩=some (.int .i64 o)/\wx.cell? ⟨P,2,none⟩=some (.int .i64 c2)/\wx.cell? ⟨P,3,none⟩=some (.bool b));case first=>
   go_region_law
    (first
     |(go_simp
       go_at_call 222
       with_reducible refine(zf5 (w1.alloc (.cells #[.int .i64 0,.int .i64 0,.int .i64 0,.bool false] 270)).drew).mono ?_
       rintro _ w5 ⟨rfl,hb⟩;have Hj:Fr NoT w1 w5:=(Fr.drew ((Fr.refl _ _).alloc _)).trans (Fr.below hb);have Gb:=((Bk.new w1 270 #[.int .i64 0,.int .i64 0,.int .i64 0,.bool false]).fr0 (Fr.drew (Fr.refl NoT _))).fr0 (Fr.below hb);have ym:=(Gs.fr0 Hj).cell 0;have z0:=Gb.cell 0;have z1:=Gb.cell 1;have z2:=Gb.cell 2;have z3:=Gb.cell 3;have y0:=Gb.frozen 0;have y1:=Gb.frozen 1;have y2:=Gb.frozen 2;have y3:=Gb.frozen 3;have Jf:=(Gs.fr0 Hj).lt;have FU:=Gb.lt;simp only[getsL]at ym z0 z1 z2 z3;have Gl:=hdq Hj;have JU:=hdq Gb;clear hb Hj Gb;dsimp only)
     |(go_simp
       go_at_call 222
       with_reducible refine(zf5 w1.drew).mono ?_
       rintro _ w5 ⟨rfl,hb⟩;have Hj:Fr NoT w1 w5:=(Fr.drew (Fr.refl _ _)).trans (Fr.below hb);have ym:=(Gs.fr0 Hj).cell 0;simp only[getsL]at ym;have Jf:=(Gs.fr0 Hj).lt;have Gl:=hdq Hj;clear hb Hj;dsimp only))
   all_goals
    go_wp2_with fail
    go_meet
    first
     |(refine⟨_,rfl,Gl.alloc _,by simp,?_⟩
       simp)
     |(refine⟨_,rfl,(((Gl.high (lrq _) 0 _).high (lrq _) 1 _).high (lrq _) 2 _).high (lrq _) 3 _,by simpa using FU,?_⟩
       have h:=(((JU.set_ 0 (.int .i64 a)).set_ 1 (.int .i64 o)).set_ 2 (.int .i64 c2)).set_ 3 (.bool b);exact⟨h.cell 0,h.cell 1,h.cell 2,h.cell 3⟩)
  case rest=>
   obtain⟨P,rfl,Jj,hP,p0,p1,p2,p3⟩:=hcut;have hbx:=Gs.fr0 Jj;have b1:=hbx.cell 1;have Vj:=hbx.lt;simp only[getsL]at b1;have L4:=hdq (Hs.trans Jj);have JC:=hdq hbx;clear Jj hbx yo Fi;go_wp2_with fail;refine(LO _ L4.out).mono ?_;rintro _ w6 ⟨rfl,hb⟩;have Hu:=JC.fr0 hb;have b3:=Hu.cell 3;have FU:=Hu.lt;have yy:=(hb.cell (p:=⟨P,0,none⟩) hP id).trans p0;have W4:=ltq hP hb.size;simp only[getsL]at b3;have G1:=hdq (L4.trans hb);clear hb Hu b1 p0 p1 p2 p3;cases q
   ·have HF:=hdq (show R=false from by rw[G3.out];simp);go_wp2_with fail;go_ret;exact⟨by rw[HF.out];rfl,G1.out⟩
   cases h7:(l:Int)==a
   ·have HF:=hdq (show R=false from by rw[G3.out,h7];simp);go_wp2_with fail;go_ret;exact⟨by rw[HF.out];rfl,G1.out⟩
   have HF:=hdq (show R=r from by rw[G3.out,h7];simp);go_wp2_with fail;refine(HC _ G1.out).mono ?_;rintro _ w7 ⟨rfl,hb⟩;have GV:=hdq (G1.trans hb);clear hb;go_wp2_with fail;go_ret;exact⟨by rw[HF.out];rfl,GV.out⟩
theorem zd0:∀(xs:Exs)(w:World)(S:Nat->Prop)(Z:Prop),SpEnv w->(∀b,S b->b < w.heap.size)->szX xs->AskEx 169 #[] w S Z okE xs
 | .nil,_,_,_,_,_,_=>λi _ _ _ _ _ _ hd=>by cases i<;>simp[Exs.drop]at hd
 | .cons k nm n args at_ rest,w,S,Z,he,hS,Ht=>λi _ _ _ _ _ _ hd r1 r2 W A3 q3 hw s3=>by
  cases i with
  |zero=>
   simp only[Exs.drop]at hd;injection hd with e1 e2 e3 e4 e5 e6;subst e1 e2 e3 e4 e5 e6;rw[Array.append_empty];refine zlC k nm n at_ A3 args.len q3 (okX args) W (he.keep hw.plain) Ht.1 (leq9 s3.1 s3.2.1.1) λW2 h2=>?_;have Pq:∀b,S b->b < W2.heap.size:=λb hb=>ltq (hS b hb) (hw.trans h2).size;have:=zf3 okE args A3 q3 169 #[] W2 S Z Pq (s3.imp λ_ _ hx=>ExR.keep (h2.same λb hb=>⟨ltq (hS b hb) hw.size,id⟩) hx) (enters_of Tryz.func169 (by kernel_rfl) rfl) (zd0 args W2 S Z (he.keep (hw.trans h2).plain) Pq Ht.2.1);rw[zgK]at this;exact this
  |succ i=>
   simp only[Exs.drop]at hd;exact zd0 rest w S Z he hS Ht.2.2 i _ _ _ _ _ _ hd r1 r2 W A3 q3 hw s3
theorem zf7 (xs:Exs)(A:Option Addr)(c:Nat)(w:World)(S:Nat->Prop)(Z:Prop)(he:SpEnv w)(hS:∀b,S b->b < w.heap.size)(Ht:szX xs)(hx:SlR (λb o=>ExR w S Z xs b o) xs.len 64 A c):
  Calls Tryz.prog 168 #[.slice A xs.len c,.func (.func 169) #[] #[]] w (zap (okX xs) w):=by
 have:=zf3 okE xs A c 169 #[] w S Z hS hx (enters_of Tryz.func169 (by kernel_rfl) rfl) (zd0 xs w S Z he hS Ht);rw[zgK]at this;exact this
def okC:Cds->Bool
 | .nil =>true
 | .cons k args of_ _ r=>(decide (1<=k)&&decide (k<=11)&&((args.len:Int)==(tabA zct k).1)&&((of_.len:Int)==(tabA zct k).2.1)&&okX args&&okC of_)&&okC r
def okD (k:Int)(args:Exs)(of_:Cds)(_:Int):Bool:=decide (1<=k)&&decide (k<=11)&&((args.len:Int)==(tabA zct k).1)&&((of_.len:Int)==(tabA zct k).2.1)&&okX args&&okC of_
theorem zgL:∀xs,zcJ okD xs=okC xs
 | .nil =>rfl
 | .cons k args of_ at_ r=>by simp only[zcJ,okC,okD,zgL r]
def szC:Cds->Prop
 | .nil =>True
 | .cons _ args of_ _ r=>szX args/\szC of_/\szC r
theorem zlD (k:Int)(at_:Int)(A:Option Addr)(l c:Nat)(B:Option Addr)(m d:Nat)(r t:Bool)(w:World)(hl:l<=9223372036854775807)(hm:m<=9223372036854775807)
  (hc:∀W,Fr NoT w W->Calls Tryz.prog 168 #[.slice A l c,.func (.func 169) #[] #[]] W (zap r W))
  (hd:∀W,Fr NoT w W->Calls Tryz.prog 170 #[.slice B m d,.func (.func 171) #[] #[]] W (zap t W)):
  Calls Tryz.prog 171 #[.agg #[.int .u8 k,.slice A l c,.slice B m d,.int .i64 at_]] w
   (zap (decide (1<=k)&&decide (k<=11)&&((l:Int)==(tabA zct k).1)&&((m:Int)==(tabA zct k).2.1)&&r&&t) w):=by
 obtain⟨R,hR⟩:=nmq ((decide (1<=k)&&decide (k<=11)&&((l:Int)==(tabA zct k).1)&&((m:Int)==(tabA zct k).2.1)&&r&&t));rw[<-hR];have HC:=hdq hc;have HD:=hdq hd;clear hc hd;by_cases h1:1<=k
 rotate_left
 ·have HF:=hdq (show R=false from by rw[hR];simp[h1]);have e1:decide (k < 1)=true:=by simp;omega
  clear hR h1;go_enter Tryz.func171,Tryz.ntmps171;go_wp2_with fail;go_ret;exact⟨by rw[HF.out];rfl,(Fr.refl _ _).alloc _⟩
 by_cases h2:k<=11
 rotate_left
 ·have HF:=hdq (show R=false from by rw[hR];simp[h2]);have e1:decide (k < 1)=false:=by simp;omega
  have e2:decide (11 < k)=true:=by simp;omega
  clear hR h1 h2;go_enter Tryz.func171,Tryz.ntmps171;go_wp2_with fail;go_ret;exact⟨by rw[HF.out];rfl,(Fr.refl _ _).alloc _⟩
 obtain⟨a,o,c2,b,Nb,Fi⟩:=zlB k h1 h2;have Nc:tabA zct k=(a,o,c2,b):=by unfold tabA;rw[Nb];rfl
 rw[Nc]at hR;simp only at hR;have e1:decide (k < 1)=false:=by simp;omega
 have e2:decide (11 < k)=false:=by simp;omega
 have G3:=hdq (show R=(((l:Int)==a)&&((m:Int)==o)&&r&&t)from by
  have x1:decide (1<=k)=true:=by simpa using h1
  have x2:decide (k<=11)=true:=by simpa using h2
  rw[hR,x1,x2];simp)
 have Gs:=hdq (Bk.new w 179 #[.int .u8 k,.slice A l c,.slice B m d,.int .i64 at_]);obtain⟨w1,Hc⟩:=nmq (w.alloc (.cells #[.int .u8 k,.slice A l c,.slice B m d,.int .i64 at_] 179));rw[<-Hc]at Gs;have Hs:=hdq (show Fr NoT w w1 from by rw[Hc];exact(Fr.refl _ _).alloc _);have Gg:=hdq Hc;clear hR h1 h2 Nb Nc Hc;all_goals
  go_enter Tryz.func171,Tryz.ntmps171
  go_upto_region 3 with fail
  rw[<-Gg.out];have yo:=Gs.cell 0;have Fo:=Gs.lt;simp only[getsL]at yo;go_cut [3] (λs3 wx=>∃P:Nat,s3= .pointer (some ⟨P,0,none⟩)/\Fr NoT w1 wx/\P < wx.heap.size/\wx.cell? ⟨P,0,none⟩=some (.int .i64 a)/\wx.cell? ⟨P,1,none⟩=some (.int .i64 o)/\wx.cell? ⟨P,2,none⟩=some (.int .i64 c2)/\wx.cell? ⟨P,3,none⟩=some (.bool b));case first=>
   go_region_law
    (first
     |(go_simp
       go_at_call 225
       with_reducible refine(zf6 (w1.alloc (.cells #[.int .i64 0,.int .i64 0,.int .i64 0,.bool false] 270)).drew).mono ?_
       rintro _ w5 ⟨rfl,hb⟩;have Hj:Fr NoT w1 w5:=(Fr.drew ((Fr.refl _ _).alloc _)).trans (Fr.below hb);have Gb:=((Bk.new w1 270 #[.int .i64 0,.int .i64 0,.int .i64 0,.bool false]).fr0 (Fr.drew (Fr.refl NoT _))).fr0 (Fr.below hb);have ym:=(Gs.fr0 Hj).cell 0;have z0:=Gb.cell 0;have z1:=Gb.cell 1;have z2:=Gb.cell 2;have z3:=Gb.cell 3;have y0:=Gb.frozen 0;have y1:=Gb.frozen 1;have y2:=Gb.frozen 2;have y3:=Gb.frozen 3;have Jf:=(Gs.fr0 Hj).lt;have FU:=Gb.lt;simp only[getsL]at ym z0 z1 z2 z3;have Gl:=hdq Hj;have JU:=hdq Gb;clear hb Hj Gb;dsimp only)
     |(go_simp
       go_at_call 225
       with_reducible refine(zf6 w1.drew).mono ?_
       rintro _ w5 ⟨rfl,hb⟩;have Hj:Fr NoT w1 w5:=(Fr.drew (Fr.refl _ _)).trans (Fr.below hb);have ym:=(Gs.fr0 Hj).cell 0;simp only[getsL]at ym;have Jf:=(Gs.fr0 Hj).lt;have Gl:=hdq Hj;clear hb Hj;dsimp only))
   all_goals
    go_wp2_with fail
    go_meet
    first
     |(refine⟨_,rfl,Gl.alloc _,by simp,?_⟩
       simp)
     |(refine⟨_,rfl,(((Gl.high (lrq _) 0 _).high (lrq _) 1 _).high (lrq _) 2 _).high (lrq _) 3 _,by simpa using FU,?_⟩
       have h:=(((JU.set_ 0 (.int .i64 a)).set_ 1 (.int .i64 o)).set_ 2 (.int .i64 c2)).set_ 3 (.bool b);exact⟨h.cell 0,h.cell 1,h.cell 2,h.cell 3⟩)
  case rest=>
   obtain⟨P,rfl,Jj,hP,p0,p1,p2,p3⟩:=hcut;have hbx:=Gs.fr0 Jj;have b1:=hbx.cell 1;have b2:=hbx.cell 2;have Vj:=hbx.lt;simp only[getsL]at b1 b2;have L4:=hdq (Hs.trans Jj);have JC:=hdq hbx;clear Jj hbx yo Fi;cases h7:(l:Int)==a
   ·have HF:=hdq (show R=false from by rw[G3.out,h7];simp);go_wp2_with fail;go_ret;exact⟨by rw[HF.out];rfl,L4.out⟩
   cases h8:(m:Int)==o
   ·have HF:=hdq (show R=false from by rw[G3.out,h7,h8];simp);go_wp2_with fail;go_ret;exact⟨by rw[HF.out];rfl,L4.out⟩
   go_wp2_with fail;refine(HC _ L4.out).mono ?_;rintro _ w6 ⟨rfl,hb⟩;have Hu:=JC.fr0 hb;have b3:=Hu.cell 2;have FU:=Hu.lt;simp only[getsL]at b3;have G1:=hdq (L4.trans hb);clear hb Hu b1 b2 p0 p1 p2 p3;cases r
   ·have HF:=hdq (show R=false from by rw[G3.out];simp);go_wp2_with fail;go_ret;exact⟨by rw[HF.out];rfl,G1.out⟩
   have HF:=hdq (show R=t from by rw[G3.out,h7,h8];simp);go_wp2_with fail;refine(HD _ G1.out).mono ?_;rintro _ w7 ⟨rfl,hb⟩;have GV:=hdq (G1.trans hb);clear hb;go_wp2_with fail;go_ret;exact⟨by rw[HF.out];rfl,GV.out⟩
theorem zd1:∀(xs:Cds)(w:World)(S:Nat->Prop)(Z:Prop),SpEnv w->(∀b,S b->b < w.heap.size)->szC xs->AskCd 171 #[] w S Z okD xs
 | .nil,_,_,_,_,_,_=>λi _ _ _ _ _ hd=>by cases i<;>simp[Cds.drop]at hd
 | .cons k args of_ at_ rest,w,S,Z,he,hS,Ht=>λi _ _ _ _ _ hd r1 W A1 q1 A2 q2 hw s1 s2=>by
  cases i with
  |zero=>
   simp only[Cds.drop]at hd;injection hd with e1 e2 e3 e4 e5;subst e1 e2 e3 e4 e5;rw[Array.append_empty];refine zlD k at_ A1 args.len q1 A2 of_.len q2 (okX args) (okC of_) W (leq9 s1.1 s1.2.1.1) (leq9 s2.1 s2.2.1.1) (λW2 h2=>?_) (λW2 h2=>?_)
   ·exact zf7 args A1 q1 W2 S Z (he.keep (hw.trans h2).plain) (λb hb=>ltq (hS b hb) (hw.trans h2).size) Ht.1 (s1.imp λ_ _ hx=>ExR.keep (h2.same λb hb=>⟨ltq (hS b hb) hw.size,id⟩) hx)
   ·have Pq:∀b,S b->b < W2.heap.size:=λb hb=>ltq (hS b hb) (hw.trans h2).size;have:=zf4 okD of_ A2 q2 171 #[] W2 S Z Pq (s2.imp λ_ _ hx=>CdR.keep (h2.same λb hb=>⟨ltq (hS b hb) hw.size,id⟩) hx) (enters_of Tryz.func171 (by kernel_rfl) rfl) (zd1 of_ W2 S Z (he.keep (hw.trans h2).plain) Pq Ht.2.1);rw[zgL]at this;exact this
  |succ i=>
   simp only[Cds.drop]at hd;exact zd1 rest w S Z he hS Ht.2.2 i _ _ _ _ _ hd r1 W A1 q1 A2 q2 hw s1 s2
theorem zjv (xs:Cds)(A:Option Addr)(c:Nat)(w:World)(S:Nat->Prop)(Z:Prop)(he:SpEnv w)(hS:∀b,S b->b < w.heap.size)(Ht:szC xs)(hx:SlR (λb o=>CdR w S Z xs b o) xs.len 64 A c):
  Calls Tryz.prog 170 #[.slice A xs.len c,.func (.func 171) #[] #[]] w (zap (okC xs) w):=by
 have:=zf4 okD xs A c 171 #[] w S Z hS hx (enters_of Tryz.func171 (by kernel_rfl) rfl) (zd1 xs w S Z he hS Ht);rw[zgL]at this;exact this
def okS:Sts->Bool
 | .nil =>true
 | .cons k nm args cond body els _ r=>(decide (1<=k)&&decide (k<=9)&&nmdB (tabA zaQ k).2.2.2 nm&&(decide ((tabA zaQ k).1 < 0) || (args.len:Int)==(tabA zaQ k).1)&&((cond.len:Int)==(tabA zaQ k).2.2.1)&&(k==7 || k==8 || body.len==0)&&(k==7 || els.len==0)&&okX args&&okC cond&&okS body&&okS els)&&okS r
def okT (k:Int)(nm:ByteArray)(args:Exs)(cond:Cds)(body els:Sts)(_:Int):Bool:=decide (1<=k)&&decide (k<=9)&&nmdB (tabA zaQ k).2.2.2 nm&&(decide ((tabA zaQ k).1 < 0) || (args.len:Int)==(tabA zaQ k).1)&&((cond.len:Int)==(tabA zaQ k).2.2.1)&&(k==7 || k==8 || body.len==0)&&(k==7 || els.len==0)&&okX args&&okC cond&&okS body&&okS els
theorem zfj:∀xs,zcK okT xs=okS xs
 | .nil =>rfl
 | .cons k nm args cond body els at_ r=>by simp only[zcK,okS,okT,zfj r]
def szS:Sts->Prop
 | .nil =>True
 | .cons _ nm args cond body els _ r=>nm.size<=9223372036854775807/\szX args/\szC cond/\szS body/\szS els/\szS r
def AllC (f g:Nat)(w:World)(A:Option Addr)(l c:Nat)(r:Bool):Prop:=∀W,Fr NoT w W->Calls Tryz.prog f #[.slice A l c,.func (.func g) #[] #[]] W (zap r W)
