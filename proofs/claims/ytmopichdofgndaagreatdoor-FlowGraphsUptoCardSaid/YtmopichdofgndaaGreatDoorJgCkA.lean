/- Small words that the walks over trees share. -/
import Derived.Test.YtmopichdofgndaaGreatDoorJgLr
import Derived.WalkMore
set_option linter.all false
set_option maxHeartbeats 3200000
set_option maxRecDepth 100000
namespace Go.Proofs.YtmopichdofgndaaGreatDoor
open Go.RowKit Go.Shelf
def zae (b:Bool)(W:World)(e:Ending)(w':World):Prop:=e= .returned (.bool b)/\Fr NoT W w'
theorem zac {α:Type}{l:List α}{k:Nat}(h:k < l.length):∃x r,l.drop k=x::r/\l.drop (k+1)=r:=
 ⟨_,_,List.drop_eq_getElem_cons h,rfl⟩
theorem bk4 {w:World}{g:Nat}{t:TypeId}{a b c d:Value}(h:Bk w g t #[a,b,c,d]):w.cell? ⟨g,0,none⟩=some a/\w.cell? ⟨g,1,none⟩=some b/\w.cell? ⟨g,2,none⟩=some c/\w.cell? ⟨g,3,none⟩=some d/\g < w.heap.size:=
 ⟨h.cell 0,h.cell 1,h.cell 2,h.cell 3,h.lt⟩
def IdxP (b:Bool)(W:World)(e:Ending)(w':World):Prop:=∃n:Int,decide (0<=n)=b/\e= .returned (.int .i64 n)/\Fr NoT W w'
def zbL (p:ByteArray->Int->Bool)(xs:List Va):Bool:=xs.all λx=>p x.nm x.at_
theorem zef {p:ByteArray->Int->Bool}{xs:List Va}{i:Nat}{a0 a1 ar}(hd:xs.drop i=(⟨a0,a1⟩:Va)::ar/\xs.drop (i+1)=ar):zbL p (xs.drop i)=(p a0 a1&&zbL p (xs.drop (i+1))):=by
 rw[hd.1,hd.2];rfl
def AskVa (g:Nat)(cap:Array Value)(w:World)(S:Nat->Prop)(Z:Prop)(p:ByteArray->Int->Bool)(xs:List Va):Prop:=
 ∀(i:Nat)(a0:ByteArray)(a1:Int)(ar:List Va),xs.drop i=(⟨a0,a1⟩:Va)::ar->∀(W:World),Fr NoT w W->Calls Tryz.prog g (#[.agg #[.string a0,.int .i64 a1]]++cap) W (zae (p a0 a1) W)
theorem AskVa.next {g:Nat}{cap:Array Value}{w w1:World}{S:Nat->Prop}{Z:Prop}{p:ByteArray->Int->Bool}{xs:List Va}(h:AskVa g cap w S Z p xs)(hf:Fr NoT w w1):AskVa g cap w1 S Z p xs:=
 λi a0 a1 ar hd W hw=>h i a0 a1 ar hd W (hf.trans hw)
theorem idxVa (p:ByteArray->Int->Bool)(xs:List Va)(A:Option Addr)(c:Nat)(g:Nat)(cap:Array Value)(w:World)(S:Nat->Prop)(Z:Prop)(hS:∀b,S b->b < w.heap.size)(hx:SlR (λb o=>VaR w S Z xs b o) xs.length 24 A c)(hent:Enters Tryz.prog g)(Hz:AskVa g cap w S Z (λa0 a1=> !(p a0 a1)) xs):
  Calls Tryz.prog 176 #[.slice A xs.length c,.func (.func g) #[] cap] w (IdxP (!(zbL p xs)) w):=by
 have hl:xs.length<=9223372036854775807:=leq9 hx.1 hx.2.1.1;have HA:=hdq Hz;have HX:=hdq hx;have HS:=hdq hS;obtain⟨m,hm⟩:=nmq xs.length;rw[<-hm]at hl ⊢;have HM:=hdq hm;clear Hz hx hS hm;unfold Enters at hent;go_enter Tryz.func176,Tryz.ntmps176;go_wp2_with fail;go_loopw [8] (λi wr=>∃k:Nat,k<=m/\i= .int .i64 k/\Hid (Fr NoT w wr)/\Hid (zbL p xs=zbL p (xs.drop k))) (λi _=>m - (intOf i).toNat);case atStart=>exact⟨0,Nat.zero_le _,rfl,Fr.refl _ _,rfl⟩
 case round=>
  obtain⟨k,hk,rfl,hb,Ha⟩:=hrel;by_cases Hr:k < m
  ·obtain⟨⟨a0,a1⟩,ar,hd⟩:=zac (show k < xs.length from by rw[<-HM.out];exact Hr);obtain⟨b,o,rfl,Hd⟩:=HX.2.2 (by rw[<-HM.out];omega);have Hb:=(VaR.keep (hb.same λb hb=>⟨HS b hb,id⟩) Hd).drop k;rw[hd.1]at Hb;obtain⟨⟨Hf,_,_,c0,c1⟩,_⟩:=Hb;have Gf:b < wr.heap.size:=ltq (HS _ Hf) hb.size;have Hl:(k:Int) < (m:Int):=by omega
   have Fb:(0:Int)<=(k:Int):=by omega
   simp only at c0 c1;have HC:=hdq (HA k a0 a1 ar hd.1 wr hb.out);have Hj:=hdq (Ha.trans (zef hd));have HB:=hdq hb.out;clear hd Hd Ha hb Hf;go_wp2_with fail;refine HC.mono ?_;rintro _ w1 ⟨rfl,Gi⟩;have Hu:=hdq (HB.trans Gi);clear Gi c0 c1;cases hp:p a0 a1
   ·have HF:=hdq (show zbL p xs=false from by rw[Hj.out,hp];rfl);clear hp Hj;go_wp2_with fail;go_ret;exact⟨k,by rw[HF.out];simp,rfl,Hu.out⟩
   ·have HN:=hdq (show zbL p xs=zbL p (xs.drop (k+1))from by rw[Hj.out,hp];rfl);clear hp Hj;go_wp2_with fail;go_roundw;case rel=>exact⟨k+1,by omega,by go_num,Hu.out,HN⟩
    case measure=>simp[intOf];omega
  ·have HF:=hdq (show zbL p xs=true from by rw[Ha.out,List.drop_eq_nil_of_le (by rw[<-HM.out];omega)];rfl);have HB:=hdq hb.out;clear Ha hb;go_wp2_with fail;go_ret;exact⟨-1,by rw[HF.out];simp,rfl,HB.out⟩
theorem conVa (p:ByteArray->Int->Bool)(xs:List Va)(A:Option Addr)(c:Nat)(g:Nat)(cap:Array Value)(w:World)(S:Nat->Prop)(Z:Prop)(hS:∀b,S b->b < w.heap.size)(hx:SlR (λb o=>VaR w S Z xs b o) xs.length 24 A c)(hent:Enters Tryz.prog g)(Hz:AskVa g cap w S Z (λa0 a1=> !(p a0 a1)) xs):
  Calls Tryz.prog 121 #[.slice A xs.length c,.func (.func g) #[] cap] w (zae (!(zbL p xs)) w):=by
 have HC:=hdq (idxVa p xs A c g cap w S Z hS hx hent Hz);clear Hz hent hx hS;go_enter Tryz.func121,Tryz.ntmps121;go_wp2_with fail;refine HC.mono ?_;rintro e w1 ⟨n,hn,rfl,hb⟩;have HN:=hdq hn;have HB:=hdq hb;clear hn hb;go_wp2_with fail;go_ret;exact⟨by rw[<-HN.out];rfl,HB.out⟩
theorem clVa (p:ByteArray->Int->Bool)(xs:List Va)(g:Nat)(cap:Array Value)(w:World)(S:Nat->Prop)(Z:Prop)(hS:∀b,S b->b < w.heap.size)(B:Nat)(FP:Bk w B 115 #[.func (.func g) #[] cap])(hent:Enters Tryz.prog g)(Hz:AskVa g cap w S Z p xs):AskVa 122 #[.pointer (some ⟨B,0,none⟩)] w S Z (λa0 a1=> !(p a0 a1)) xs:=by
 intro i a0 a1 ar hd W hw;have Hc:Fr NoT W (W.alloc (.cells #[.string a0,.int .i64 a1] 43)):=(Fr.refl _ _).alloc _;have HC:=hdq (Hz i a0 a1 ar hd _ (hw.trans Hc));have hb:=FP.fr0 hw;have c0:=hb.cell 0;have hl:=hb.lt;simp only[List.getElem?_toArray,List.getElem?_cons_zero]at c0;have Ga:=hdq Hc;clear Hz hd hw Hc hS FP hb;unfold Enters at hent;go_enter Tryz.func122,Tryz.ntmps122;go_wp2_with fail;refine HC.mono ?_;rintro _ w1 ⟨rfl,hb⟩;have HB:=hdq (Ga.trans hb);clear hb;go_wp2_with fail;go_ret;exact⟨rfl,HB.out⟩
theorem ziG (p:ByteArray->Int->Bool)(xs:List Va)(A:Option Addr)(c:Nat)(g:Nat)(cap:Array Value)(w:World)(S:Nat->Prop)(Z:Prop)(hS:∀b,S b->b < w.heap.size)(hx:SlR (λb o=>VaR w S Z xs b o) xs.length 24 A c)(hent:Enters Tryz.prog g)(Hz:AskVa g cap w S Z p xs):
  Calls Tryz.prog 54 #[.slice A xs.length c,.func (.func g) #[] cap] w (zae (zbL p xs) w):=by
 have Ut:= @makeF Tryz.prog;have Hc:Fr NoT w (w.alloc (.cells #[.func (.func g) #[] cap] 115)):=(Fr.refl _ _).alloc _;have Ko:∀b,S b->b < (w.alloc (.cells #[.func (.func g) #[] cap] 115)).heap.size :=λb hb=>ltq (hS b hb) Hc.size;have HC:=hdq (conVa p xs A c 122 #[.pointer (some ⟨w.heap.size,0,none⟩)] _ S Z Ko (hx.imp λ_ _ hx=>VaR.keep (Hc.same λb hb=>⟨hS b hb,id⟩) hx) (enters_of Tryz.func122 (by kernel_rfl) rfl)
  (clVa p xs g cap _ S Z Ko w.heap.size (Bk.new _ _ _) hent (Hz.next Hc)))
 have Ga:=hdq Hc;clear Hz hent hx hS Ko Hc;go_enter Tryz.func54,Tryz.ntmps54;go_wp2_with fail;refine HC.mono ?_;rintro _ w1 ⟨rfl,hb⟩;have HB:=hdq (Ga.trans hb);clear hb;go_wp2_with fail;go_ret;exact⟨by simp,HB.out⟩
def zbU (p:ByteArray->Int->Int->Bool)(xs:List Arr):Bool:=xs.all λx=>p x.nm x.size x.at_
theorem zeg {p:ByteArray->Int->Int->Bool}{xs:List Arr}{i:Nat}{a0 a1 a2 ar}(hd:xs.drop i=(⟨a0,a1,a2⟩:Arr)::ar/\xs.drop (i+1)=ar):zbU p (xs.drop i)=(p a0 a1 a2&&zbU p (xs.drop (i+1))):=by
 rw[hd.1,hd.2];rfl
def AskAr (g:Nat)(cap:Array Value)(w:World)(S:Nat->Prop)(Z:Prop)(p:ByteArray->Int->Int->Bool)(xs:List Arr):Prop:=
 ∀(i:Nat)(a0:ByteArray)(a1:Int)(a2:Int)(ar:List Arr),xs.drop i=(⟨a0,a1,a2⟩:Arr)::ar->∀(W:World),Fr NoT w W->Calls Tryz.prog g (#[.agg #[.string a0,.int .i64 a1,.int .i64 a2]]++cap) W (zae (p a0 a1 a2) W)
theorem AskAr.next {g:Nat}{cap:Array Value}{w w1:World}{S:Nat->Prop}{Z:Prop}{p:ByteArray->Int->Int->Bool}{xs:List Arr}(h:AskAr g cap w S Z p xs)(hf:Fr NoT w w1):AskAr g cap w1 S Z p xs:=
 λi a0 a1 a2 ar hd W hw=>h i a0 a1 a2 ar hd W (hf.trans hw)
theorem idxAr (p:ByteArray->Int->Int->Bool)(xs:List Arr)(A:Option Addr)(c:Nat)(g:Nat)(cap:Array Value)(w:World)(S:Nat->Prop)(Z:Prop)(hS:∀b,S b->b < w.heap.size)(hx:SlR (λb o=>ArR w S Z xs b o) xs.length 32 A c)(hent:Enters Tryz.prog g)(Hz:AskAr g cap w S Z (λa0 a1 a2=> !(p a0 a1 a2)) xs):
  Calls Tryz.prog 184 #[.slice A xs.length c,.func (.func g) #[] cap] w (IdxP (!(zbU p xs)) w):=by
 have hl:xs.length<=9223372036854775807:=leq9 hx.1 hx.2.1.1;have HA:=hdq Hz;have HX:=hdq hx;have HS:=hdq hS;obtain⟨m,hm⟩:=nmq xs.length;rw[<-hm]at hl ⊢;have HM:=hdq hm;clear Hz hx hS hm;unfold Enters at hent;go_enter Tryz.func184,Tryz.ntmps184;go_wp2_with fail;go_loopw [8] (λi wr=>∃k:Nat,k<=m/\i= .int .i64 k/\Hid (Fr NoT w wr)/\Hid (zbU p xs=zbU p (xs.drop k))) (λi _=>m - (intOf i).toNat);case atStart=>exact⟨0,Nat.zero_le _,rfl,Fr.refl _ _,rfl⟩
 case round=>
  obtain⟨k,hk,rfl,hb,Ha⟩:=hrel;by_cases Hr:k < m
  ·obtain⟨⟨a0,a1,a2⟩,ar,hd⟩:=zac (show k < xs.length from by rw[<-HM.out];exact Hr);obtain⟨b,o,rfl,Hd⟩:=HX.2.2 (by rw[<-HM.out];omega);have Hb:=(ArR.keep (hb.same λb hb=>⟨HS b hb,id⟩) Hd).drop k;rw[hd.1]at Hb;obtain⟨⟨Hf,_,_,_,c0,c1,c2⟩,_⟩:=Hb;have Gf:b < wr.heap.size:=ltq (HS _ Hf) hb.size;have Hl:(k:Int) < (m:Int):=by omega
   have Fb:(0:Int)<=(k:Int):=by omega
   simp only at c0 c1 c2;have HC:=hdq (HA k a0 a1 a2 ar hd.1 wr hb.out);have Hj:=hdq (Ha.trans (zeg hd));have HB:=hdq hb.out;clear hd Hd Ha hb Hf;go_wp2_with fail;refine HC.mono ?_;rintro _ w1 ⟨rfl,Gi⟩;have Hu:=hdq (HB.trans Gi);clear Gi c0 c1 c2;cases hp:p a0 a1 a2
   ·have HF:=hdq (show zbU p xs=false from by rw[Hj.out,hp];rfl);clear hp Hj;go_wp2_with fail;go_ret;exact⟨k,by rw[HF.out];simp,rfl,Hu.out⟩
   ·have HN:=hdq (show zbU p xs=zbU p (xs.drop (k+1))from by rw[Hj.out,hp];rfl);clear hp Hj;go_wp2_with fail;go_roundw;case rel=>exact⟨k+1,by omega,by go_num,Hu.out,HN⟩
    case measure=>simp[intOf];omega
  ·have HF:=hdq (show zbU p xs=true from by rw[Ha.out,List.drop_eq_nil_of_le (by rw[<-HM.out];omega)];rfl);have HB:=hdq hb.out;clear Ha hb;go_wp2_with fail;go_ret;exact⟨-1,by rw[HF.out];simp,rfl,HB.out⟩
theorem conAr (p:ByteArray->Int->Int->Bool)(xs:List Arr)(A:Option Addr)(c:Nat)(g:Nat)(cap:Array Value)(w:World)(S:Nat->Prop)(Z:Prop)(hS:∀b,S b->b < w.heap.size)(hx:SlR (λb o=>ArR w S Z xs b o) xs.length 32 A c)(hent:Enters Tryz.prog g)(Hz:AskAr g cap w S Z (λa0 a1 a2=> !(p a0 a1 a2)) xs):
  Calls Tryz.prog 131 #[.slice A xs.length c,.func (.func g) #[] cap] w (zae (!(zbU p xs)) w):=by
 have HC:=hdq (idxAr p xs A c g cap w S Z hS hx hent Hz);clear Hz hent hx hS;go_enter Tryz.func131,Tryz.ntmps131;go_wp2_with fail;refine HC.mono ?_;rintro e w1 ⟨n,hn,rfl,hb⟩;have HN:=hdq hn;have HB:=hdq hb;clear hn hb;go_wp2_with fail;go_ret;exact⟨by rw[<-HN.out];rfl,HB.out⟩
theorem clAr (p:ByteArray->Int->Int->Bool)(xs:List Arr)(g:Nat)(cap:Array Value)(w:World)(S:Nat->Prop)(Z:Prop)(hS:∀b,S b->b < w.heap.size)(B:Nat)(FP:Bk w B 120 #[.func (.func g) #[] cap])(hent:Enters Tryz.prog g)(Hz:AskAr g cap w S Z p xs):AskAr 132 #[.pointer (some ⟨B,0,none⟩)] w S Z (λa0 a1 a2=> !(p a0 a1 a2)) xs:=by
 intro i a0 a1 a2 ar hd W hw;have Hc:Fr NoT W (W.alloc (.cells #[.string a0,.int .i64 a1,.int .i64 a2] 66)):=(Fr.refl _ _).alloc _;have HC:=hdq (Hz i a0 a1 a2 ar hd _ (hw.trans Hc));have hb:=FP.fr0 hw;have c0:=hb.cell 0;have hl:=hb.lt;simp only[List.getElem?_toArray,List.getElem?_cons_zero]at c0;have Ga:=hdq Hc;clear Hz hd hw Hc hS FP hb;unfold Enters at hent;go_enter Tryz.func132,Tryz.ntmps132;go_wp2_with fail;refine HC.mono ?_;rintro _ w1 ⟨rfl,hb⟩;have HB:=hdq (Ga.trans hb);clear hb;go_wp2_with fail;go_ret;exact⟨rfl,HB.out⟩
theorem ziH (p:ByteArray->Int->Int->Bool)(xs:List Arr)(A:Option Addr)(c:Nat)(g:Nat)(cap:Array Value)(w:World)(S:Nat->Prop)(Z:Prop)(hS:∀b,S b->b < w.heap.size)(hx:SlR (λb o=>ArR w S Z xs b o) xs.length 32 A c)(hent:Enters Tryz.prog g)(Hz:AskAr g cap w S Z p xs):
  Calls Tryz.prog 57 #[.slice A xs.length c,.func (.func g) #[] cap] w (zae (zbU p xs) w):=by
 have Ut:= @makeF Tryz.prog;have Hc:Fr NoT w (w.alloc (.cells #[.func (.func g) #[] cap] 120)):=(Fr.refl _ _).alloc _;have Ko:∀b,S b->b < (w.alloc (.cells #[.func (.func g) #[] cap] 120)).heap.size :=λb hb=>ltq (hS b hb) Hc.size;have HC:=hdq (conAr p xs A c 132 #[.pointer (some ⟨w.heap.size,0,none⟩)] _ S Z Ko (hx.imp λ_ _ hx=>ArR.keep (Hc.same λb hb=>⟨hS b hb,id⟩) hx) (enters_of Tryz.func132 (by kernel_rfl) rfl)
  (clAr p xs g cap _ S Z Ko w.heap.size (Bk.new _ _ _) hent (Hz.next Hc)))
 have Ga:=hdq Hc;clear Hz hent hx hS Ko Hc;go_enter Tryz.func57,Tryz.ntmps57;go_wp2_with fail;refine HC.mono ?_;rintro _ w1 ⟨rfl,hb⟩;have HB:=hdq (Ga.trans hb);clear hb;go_wp2_with fail;go_ret;exact⟨by simp,HB.out⟩
def zbm (p:ByteArray->(List Va)->Sts->Int->Bool)(xs:List Prc):Bool:=xs.all λx=>p x.nm x.params x.body x.at_
theorem zeh {p:ByteArray->(List Va)->Sts->Int->Bool}{xs:List Prc}{i:Nat}{a0 a1 a2 a3 ar}(hd:xs.drop i=(⟨a0,a1,a2,a3⟩:Prc)::ar/\xs.drop (i+1)=ar):zbm p (xs.drop i)=(p a0 a1 a2 a3&&zbm p (xs.drop (i+1))):=by
 rw[hd.1,hd.2];rfl
def AskPr (g:Nat)(cap:Array Value)(w:World)(S:Nat->Prop)(Z:Prop)(p:ByteArray->(List Va)->Sts->Int->Bool)(xs:List Prc):Prop:=
 ∀(i:Nat)(a0:ByteArray)(a1:List Va)(a2:Sts)(a3:Int)(ar:List Prc),xs.drop i=(⟨a0,a1,a2,a3⟩:Prc)::ar->∀(W:World)(A1:Option Addr)(q1:Nat)(A2:Option Addr)(q2:Nat),Fr NoT w W->SlR (λb o=>VaR W S Z a1 b o) a1.length 24 A1 q1->SlR (λb o=>StR W S Z a2 b o) a2.len 128 A2 q2->Calls Tryz.prog g (#[.agg #[.string a0,.slice A1 a1.length q1,.slice A2 a2.len q2,.int .i64 a3]]++cap) W (zae (p a0 a1 a2 a3) W)
theorem AskPr.next {g:Nat}{cap:Array Value}{w w1:World}{S:Nat->Prop}{Z:Prop}{p:ByteArray->(List Va)->Sts->Int->Bool}{xs:List Prc}(h:AskPr g cap w S Z p xs)(hf:Fr NoT w w1):AskPr g cap w1 S Z p xs:=
 λi a0 a1 a2 a3 ar hd W A1 q1 A2 q2 hw s1 s2=>h i a0 a1 a2 a3 ar hd W A1 q1 A2 q2 (hf.trans hw) s1 s2
theorem idxPr (p:ByteArray->(List Va)->Sts->Int->Bool)(xs:List Prc)(A:Option Addr)(c:Nat)(g:Nat)(cap:Array Value)(w:World)(S:Nat->Prop)(Z:Prop)(hS:∀b,S b->b < w.heap.size)(hx:SlR (λb o=>PrR w S Z xs b o) xs.length 72 A c)(hent:Enters Tryz.prog g)(Hz:AskPr g cap w S Z (λa0 a1 a2 a3=> !(p a0 a1 a2 a3)) xs):
  Calls Tryz.prog 145 #[.slice A xs.length c,.func (.func g) #[] cap] w (IdxP (!(zbm p xs)) w):=by
 have hl:xs.length<=9223372036854775807:=leq9 hx.1 hx.2.1.1;have HA:=hdq Hz;have HX:=hdq hx;have HS:=hdq hS;obtain⟨m,hm⟩:=nmq xs.length;rw[<-hm]at hl ⊢;have HM:=hdq hm;clear Hz hx hS hm;unfold Enters at hent;go_enter Tryz.func145,Tryz.ntmps145;go_wp2_with fail;go_loopw [8] (λi wr=>∃k:Nat,k<=m/\i= .int .i64 k/\Hid (Fr NoT w wr)/\Hid (zbm p xs=zbm p (xs.drop k))) (λi _=>m - (intOf i).toNat);case atStart=>exact⟨0,Nat.zero_le _,rfl,Fr.refl _ _,rfl⟩
 case round=>
  obtain⟨k,hk,rfl,hb,Ha⟩:=hrel;by_cases Hr:k < m
  ·obtain⟨⟨a0,a1,a2,a3⟩,ar,hd⟩:=zac (show k < xs.length from by rw[<-HM.out];exact Hr);obtain⟨b,o,rfl,Hd⟩:=HX.2.2 (by rw[<-HM.out];omega);have Hb:=(PrR.keep (hb.same λb hb=>⟨HS b hb,id⟩) Hd).drop k;rw[hd.1]at Hb;obtain⟨⟨Hf,_,_,c0,c3⟩,⟨A1,q1,c1,s1⟩,⟨A2,q2,c2,s2⟩,_⟩:=Hb;have Gf:b < wr.heap.size:=ltq (HS _ Hf) hb.size;have Hl:(k:Int) < (m:Int):=by omega
   have Fb:(0:Int)<=(k:Int):=by omega
   simp only at c0 c1 c2 c3 s1 s2;have HC:=hdq (HA k a0 a1 a2 a3 ar hd.1 wr A1 q1 A2 q2 hb.out s1 s2);have Hj:=hdq (Ha.trans (zeh hd));have HB:=hdq hb.out;clear hd Hd Ha hb Hf s1 s2;go_wp2_with fail;refine HC.mono ?_;rintro _ w1 ⟨rfl,Gi⟩;have Hu:=hdq (HB.trans Gi);clear Gi c0 c1 c2 c3;cases hp:p a0 a1 a2 a3
   ·have HF:=hdq (show zbm p xs=false from by rw[Hj.out,hp];rfl);clear hp Hj;go_wp2_with fail;go_ret;exact⟨k,by rw[HF.out];simp,rfl,Hu.out⟩
   ·have HN:=hdq (show zbm p xs=zbm p (xs.drop (k+1))from by rw[Hj.out,hp];rfl);clear hp Hj;go_wp2_with fail;go_roundw;case rel=>exact⟨k+1,by omega,by go_num,Hu.out,HN⟩
    case measure=>simp[intOf];omega
  ·have HF:=hdq (show zbm p xs=true from by rw[Ha.out,List.drop_eq_nil_of_le (by rw[<-HM.out];omega)];rfl);have HB:=hdq hb.out;clear Ha hb;go_wp2_with fail;go_ret;exact⟨-1,by rw[HF.out];simp,rfl,HB.out⟩
theorem conPr (p:ByteArray->(List Va)->Sts->Int->Bool)(xs:List Prc)(A:Option Addr)(c:Nat)(g:Nat)(cap:Array Value)(w:World)(S:Nat->Prop)(Z:Prop)(hS:∀b,S b->b < w.heap.size)(hx:SlR (λb o=>PrR w S Z xs b o) xs.length 72 A c)(hent:Enters Tryz.prog g)(Hz:AskPr g cap w S Z (λa0 a1 a2 a3=> !(p a0 a1 a2 a3)) xs):
  Calls Tryz.prog 79 #[.slice A xs.length c,.func (.func g) #[] cap] w (zae (!(zbm p xs)) w):=by
 have HC:=hdq (idxPr p xs A c g cap w S Z hS hx hent Hz);clear Hz hent hx hS;go_enter Tryz.func79,Tryz.ntmps79;go_wp2_with fail;refine HC.mono ?_;rintro e w1 ⟨n,hn,rfl,hb⟩;have HN:=hdq hn;have HB:=hdq hb;clear hn hb;go_wp2_with fail;go_ret;exact⟨by rw[<-HN.out];rfl,HB.out⟩
theorem clPr (p:ByteArray->(List Va)->Sts->Int->Bool)(xs:List Prc)(g:Nat)(cap:Array Value)(w:World)(S:Nat->Prop)(Z:Prop)(hS:∀b,S b->b < w.heap.size)(B:Nat)(FP:Bk w B 122 #[.func (.func g) #[] cap])(hent:Enters Tryz.prog g)(Hz:AskPr g cap w S Z p xs):AskPr 133 #[.pointer (some ⟨B,0,none⟩)] w S Z (λa0 a1 a2 a3=> !(p a0 a1 a2 a3)) xs:=by
 intro i a0 a1 a2 a3 ar hd W A1 q1 A2 q2 hw s1 s2;have Hc:Fr NoT W (W.alloc (.cells #[.string a0,.slice A1 a1.length q1,.slice A2 a2.len q2,.int .i64 a3] 68)):=(Fr.refl _ _).alloc _;have HC:=hdq (Hz i a0 a1 a2 a3 ar hd _ A1 q1 A2 q2 (hw.trans Hc) (s1.imp λ_ _ hx=>VaR.keep (Hc.same λb hb=>⟨ltq (hS b hb) hw.size,id⟩) hx) (s2.imp λ_ _ hx=>StR.keep (Hc.same λb hb=>⟨ltq (hS b hb) hw.size,id⟩) hx));have hb:=FP.fr0 hw;have c0:=hb.cell 0;have hl:=hb.lt;simp only[List.getElem?_toArray,List.getElem?_cons_zero]at c0;have Ga:=hdq Hc;clear Hz hd hw Hc hS FP hb s1 s2;unfold Enters at hent;go_enter Tryz.func133,Tryz.ntmps133;go_wp2_with fail;refine HC.mono ?_;rintro _ w1 ⟨rfl,hb⟩;have HB:=hdq (Ga.trans hb);clear hb;go_wp2_with fail;go_ret;exact⟨rfl,HB.out⟩
theorem ziI (p:ByteArray->(List Va)->Sts->Int->Bool)(xs:List Prc)(A:Option Addr)(c:Nat)(g:Nat)(cap:Array Value)(w:World)(S:Nat->Prop)(Z:Prop)(hS:∀b,S b->b < w.heap.size)(hx:SlR (λb o=>PrR w S Z xs b o) xs.length 72 A c)(hent:Enters Tryz.prog g)(Hz:AskPr g cap w S Z p xs):
  Calls Tryz.prog 59 #[.slice A xs.length c,.func (.func g) #[] cap] w (zae (zbm p xs) w):=by
 have Ut:= @makeF Tryz.prog;have Hc:Fr NoT w (w.alloc (.cells #[.func (.func g) #[] cap] 122)):=(Fr.refl _ _).alloc _;have Ko:∀b,S b->b < (w.alloc (.cells #[.func (.func g) #[] cap] 122)).heap.size :=λb hb=>ltq (hS b hb) Hc.size;have HC:=hdq (conPr p xs A c 133 #[.pointer (some ⟨w.heap.size,0,none⟩)] _ S Z Ko (hx.imp λ_ _ hx=>PrR.keep (Hc.same λb hb=>⟨hS b hb,id⟩) hx) (enters_of Tryz.func133 (by kernel_rfl) rfl)
  (clPr p xs g cap _ S Z Ko w.heap.size (Bk.new _ _ _) hent (Hz.next Hc)))
 have Ga:=hdq Hc;clear Hz hent hx hS Ko Hc;go_enter Tryz.func59,Tryz.ntmps59;go_wp2_with fail;refine HC.mono ?_;rintro _ w1 ⟨rfl,hb⟩;have HB:=hdq (Ga.trans hb);clear hb;go_wp2_with fail;go_ret;exact⟨by simp,HB.out⟩
def zcq (p:Int->ByteArray->Int->Exs->Int->Bool):Exs->Bool
 | .nil =>true
 | .cons a0 a1 a2 a3 a4 ar=>p a0 a1 a2 a3 a4&&zcq p ar
theorem zhG {p:Int->ByteArray->Int->Exs->Int->Bool}{xs:Exs}{i:Nat}{a0 a1 a2 a3 a4 ar}(hd:Exs.drop i xs= .cons a0 a1 a2 a3 a4 ar):zcq p (Exs.drop i xs)=(p a0 a1 a2 a3 a4&&zcq p (Exs.drop (i+1) xs)):=by
 rw[Exs.drop_succ i xs hd,hd];rfl
def AskEx (g:Nat)(cap:Array Value)(w:World)(S:Nat->Prop)(Z:Prop)(p:Int->ByteArray->Int->Exs->Int->Bool)(xs:Exs):Prop:=
 ∀(i:Nat)(a0:Int)(a1:ByteArray)(a2:Int)(a3:Exs)(a4:Int)(ar:Exs),Exs.drop i xs= .cons a0 a1 a2 a3 a4 ar->in8 a0->in64 a2->∀(W:World)(A3:Option Addr)(q3:Nat),Fr NoT w W->SlR (λb o=>ExR W S Z a3 b o) a3.len 64 A3 q3->Calls Tryz.prog g (#[.agg #[.int .u8 a0,.string a1,.int .i64 a2,.slice A3 a3.len q3,.int .i64 a4]]++cap) W (zae (p a0 a1 a2 a3 a4) W)
theorem AskEx.next {g:Nat}{cap:Array Value}{w w1:World}{S:Nat->Prop}{Z:Prop}{p:Int->ByteArray->Int->Exs->Int->Bool}{xs:Exs}(h:AskEx g cap w S Z p xs)(hf:Fr NoT w w1):AskEx g cap w1 S Z p xs:=
 λi a0 a1 a2 a3 a4 ar hd r0 r1 W A3 q3 hw s3=>h i a0 a1 a2 a3 a4 ar hd r0 r1 W A3 q3 (hf.trans hw) s3
theorem idxEx (p:Int->ByteArray->Int->Exs->Int->Bool)(xs:Exs)(A:Option Addr)(c:Nat)(g:Nat)(cap:Array Value)(w:World)(S:Nat->Prop)(Z:Prop)(hS:∀b,S b->b < w.heap.size)(hx:SlR (λb o=>ExR w S Z xs b o) xs.len 64 A c)(hent:Enters Tryz.prog g)(Hz:AskEx g cap w S Z (λa0 a1 a2 a3 a4=> !(p a0 a1 a2 a3 a4)) xs):
  Calls Tryz.prog 211 #[.slice A xs.len c,.func (.func g) #[] cap] w (IdxP (!(zcq p xs)) w):=by
 have hl:xs.len<=9223372036854775807:=leq9 hx.1 hx.2.1.1;have HA:=hdq Hz;have HX:=hdq hx;have HS:=hdq hS;obtain⟨m,hm⟩:=nmq xs.len;rw[<-hm]at hl ⊢;have HM:=hdq hm;clear Hz hx hS hm;unfold Enters at hent;go_enter Tryz.func211,Tryz.ntmps211;go_wp2_with fail;go_loopw [8] (λi wr=>∃k:Nat,k<=m/\i= .int .i64 k/\Hid (Fr NoT w wr)/\Hid (zcq p xs=zcq p (Exs.drop k xs))) (λi _=>m - (intOf i).toNat);case atStart=>exact⟨0,Nat.zero_le _,rfl,Fr.refl _ _,rfl⟩
 case round=>
  obtain⟨k,hk,rfl,hb,Ha⟩:=hrel;by_cases Hr:k < m
  ·obtain⟨a0,a1,a2,a3,a4,ar,hd⟩:=Exs.drop_cons (show k < xs.len from by rw[<-HM.out];exact Hr);obtain⟨b,o,rfl,Hd⟩:=HX.2.2 (by rw[<-HM.out];omega);have Hb:=(ExR.keep (hb.same λb hb=>⟨HS b hb,id⟩) Hd).drop k;rw[hd]at Hb;obtain⟨⟨Hf,_,r0,r1,_,c0,c1,c2,c4⟩,⟨A3,q3,c3,s3⟩,_⟩:=Hb;have Gf:b < wr.heap.size:=ltq (HS _ Hf) hb.size;have Hl:(k:Int) < (m:Int):=by omega
   have Fb:(0:Int)<=(k:Int):=by omega
   have HC:=hdq (HA k a0 a1 a2 a3 a4 ar hd r0 r1 wr A3 q3 hb.out s3);have Hj:=hdq (Ha.trans (zhG hd));have HB:=hdq hb.out;clear hd Hd Ha hb Hf s3 r0 r1;go_wp2_with fail;refine HC.mono ?_;rintro _ w1 ⟨rfl,Gi⟩;have Hu:=hdq (HB.trans Gi);clear Gi c0 c1 c2 c3 c4;cases hp:p a0 a1 a2 a3 a4
   ·have HF:=hdq (show zcq p xs=false from by rw[Hj.out,hp];rfl);clear hp Hj;go_wp2_with fail;go_ret;exact⟨k,by rw[HF.out];simp,rfl,Hu.out⟩
   ·have HN:=hdq (show zcq p xs=zcq p (Exs.drop (k+1) xs)from by rw[Hj.out,hp];rfl);clear hp Hj;go_wp2_with fail;go_roundw;case rel=>exact⟨k+1,by omega,by go_num,Hu.out,HN⟩
    case measure=>simp[intOf];omega
  ·have HF:=hdq (show zcq p xs=true from by rw[Ha.out,Exs.drop_nil (by rw[<-HM.out];omega)];rfl);have HB:=hdq hb.out;clear Ha hb;go_wp2_with fail;go_ret;exact⟨-1,by rw[HF.out];simp,rfl,HB.out⟩
theorem conEx (p:Int->ByteArray->Int->Exs->Int->Bool)(xs:Exs)(A:Option Addr)(c:Nat)(g:Nat)(cap:Array Value)(w:World)(S:Nat->Prop)(Z:Prop)(hS:∀b,S b->b < w.heap.size)(hx:SlR (λb o=>ExR w S Z xs b o) xs.len 64 A c)(hent:Enters Tryz.prog g)(Hz:AskEx g cap w S Z (λa0 a1 a2 a3 a4=> !(p a0 a1 a2 a3 a4)) xs):
  Calls Tryz.prog 178 #[.slice A xs.len c,.func (.func g) #[] cap] w (zae (!(zcq p xs)) w):=by
 have HC:=hdq (idxEx p xs A c g cap w S Z hS hx hent Hz);clear Hz hent hx hS;go_enter Tryz.func178,Tryz.ntmps178;go_wp2_with fail;refine HC.mono ?_;rintro e w1 ⟨n,hn,rfl,hb⟩;have HN:=hdq hn;have HB:=hdq hb;clear hn hb;go_wp2_with fail;go_ret;exact⟨by rw[<-HN.out];rfl,HB.out⟩
theorem clEx (p:Int->ByteArray->Int->Exs->Int->Bool)(xs:Exs)(g:Nat)(cap:Array Value)(w:World)(S:Nat->Prop)(Z:Prop)(hS:∀b,S b->b < w.heap.size)(B:Nat)(FP:Bk w B 201 #[.func (.func g) #[] cap])(hent:Enters Tryz.prog g)(Hz:AskEx g cap w S Z p xs):AskEx 179 #[.pointer (some ⟨B,0,none⟩)] w S Z (λa0 a1 a2 a3 a4=> !(p a0 a1 a2 a3 a4)) xs:=by
 intro i a0 a1 a2 a3 a4 ar hd r0 r1 W A3 q3 hw s3;have Hc:Fr NoT W (W.alloc (.cells #[.int .u8 a0,.string a1,.int .i64 a2,.slice A3 a3.len q3,.int .i64 a4] 41)):=(Fr.refl _ _).alloc _;have HC:=hdq (Hz i a0 a1 a2 a3 a4 ar hd r0 r1 _ A3 q3 (hw.trans Hc) (s3.imp λ_ _ hx=>ExR.keep (Hc.same λb hb=>⟨ltq (hS b hb) hw.size,id⟩) hx));have hb:=FP.fr0 hw;have c0:=hb.cell 0;have hl:=hb.lt;simp only[List.getElem?_toArray,List.getElem?_cons_zero]at c0;have Ga:=hdq Hc;clear Hz hd hw Hc hS FP hb s3 r0 r1;unfold Enters at hent;go_enter Tryz.func179,Tryz.ntmps179;go_wp2_with fail;refine HC.mono ?_;rintro _ w1 ⟨rfl,hb⟩;have HB:=hdq (Ga.trans hb);clear hb;go_wp2_with fail;go_ret;exact⟨rfl,HB.out⟩
theorem zfB (p:Int->ByteArray->Int->Exs->Int->Bool)(xs:Exs)(A:Option Addr)(c:Nat)(g:Nat)(cap:Array Value)(w:World)(S:Nat->Prop)(Z:Prop)(hS:∀b,S b->b < w.heap.size)(hx:SlR (λb o=>ExR w S Z xs b o) xs.len 64 A c)(hent:Enters Tryz.prog g)(Hz:AskEx g cap w S Z p xs):
  Calls Tryz.prog 127 #[.slice A xs.len c,.func (.func g) #[] cap] w (zae (zcq p xs) w):=by
 have Ut:= @makeF Tryz.prog;have Hc:Fr NoT w (w.alloc (.cells #[.func (.func g) #[] cap] 201)):=(Fr.refl _ _).alloc _;have Ko:∀b,S b->b < (w.alloc (.cells #[.func (.func g) #[] cap] 201)).heap.size :=λb hb=>ltq (hS b hb) Hc.size;have HC:=hdq (conEx p xs A c 179 #[.pointer (some ⟨w.heap.size,0,none⟩)] _ S Z Ko (hx.imp λ_ _ hx=>ExR.keep (Hc.same λb hb=>⟨hS b hb,id⟩) hx) (enters_of Tryz.func179 (by kernel_rfl) rfl)
  (clEx p xs g cap _ S Z Ko w.heap.size (Bk.new _ _ _) hent (Hz.next Hc)))
 have Ga:=hdq Hc;clear Hz hent hx hS Ko Hc;go_enter Tryz.func127,Tryz.ntmps127;go_wp2_with fail;refine HC.mono ?_;rintro _ w1 ⟨rfl,hb⟩;have HB:=hdq (Ga.trans hb);clear hb;go_wp2_with fail;go_ret;exact⟨by simp,HB.out⟩
def zcr (p:Int->Exs->Cds->Int->Bool):Cds->Bool
 | .nil =>true
 | .cons a0 a1 a2 a3 ar=>p a0 a1 a2 a3&&zcr p ar
theorem zhH {p:Int->Exs->Cds->Int->Bool}{xs:Cds}{i:Nat}{a0 a1 a2 a3 ar}(hd:Cds.drop i xs= .cons a0 a1 a2 a3 ar):zcr p (Cds.drop i xs)=(p a0 a1 a2 a3&&zcr p (Cds.drop (i+1) xs)):=by
 rw[Cds.drop_succ i xs hd,hd];rfl
def AskCd (g:Nat)(cap:Array Value)(w:World)(S:Nat->Prop)(Z:Prop)(p:Int->Exs->Cds->Int->Bool)(xs:Cds):Prop:=
 ∀(i:Nat)(a0:Int)(a1:Exs)(a2:Cds)(a3:Int)(ar:Cds),Cds.drop i xs= .cons a0 a1 a2 a3 ar->in8 a0->∀(W:World)(A1:Option Addr)(q1:Nat)(A2:Option Addr)(q2:Nat),Fr NoT w W->SlR (λb o=>ExR W S Z a1 b o) a1.len 64 A1 q1->SlR (λb o=>CdR W S Z a2 b o) a2.len 64 A2 q2->Calls Tryz.prog g (#[.agg #[.int .u8 a0,.slice A1 a1.len q1,.slice A2 a2.len q2,.int .i64 a3]]++cap) W (zae (p a0 a1 a2 a3) W)
theorem AskCd.next {g:Nat}{cap:Array Value}{w w1:World}{S:Nat->Prop}{Z:Prop}{p:Int->Exs->Cds->Int->Bool}{xs:Cds}(h:AskCd g cap w S Z p xs)(hf:Fr NoT w w1):AskCd g cap w1 S Z p xs:=
 λi a0 a1 a2 a3 ar hd r0 W A1 q1 A2 q2 hw s1 s2=>h i a0 a1 a2 a3 ar hd r0 W A1 q1 A2 q2 (hf.trans hw) s1 s2
theorem idxCd (p:Int->Exs->Cds->Int->Bool)(xs:Cds)(A:Option Addr)(c:Nat)(g:Nat)(cap:Array Value)(w:World)(S:Nat->Prop)(Z:Prop)(hS:∀b,S b->b < w.heap.size)(hx:SlR (λb o=>CdR w S Z xs b o) xs.len 64 A c)(hent:Enters Tryz.prog g)(Hz:AskCd g cap w S Z (λa0 a1 a2 a3=> !(p a0 a1 a2 a3)) xs):
  Calls Tryz.prog 212 #[.slice A xs.len c,.func (.func g) #[] cap] w (IdxP (!(zcr p xs)) w):=by
 have hl:xs.len<=9223372036854775807:=leq9 hx.1 hx.2.1.1;have HA:=hdq Hz;have HX:=hdq hx;have HS:=hdq hS;obtain⟨m,hm⟩:=nmq xs.len;rw[<-hm]at hl ⊢;have HM:=hdq hm;clear Hz hx hS hm;unfold Enters at hent;go_enter Tryz.func212,Tryz.ntmps212;go_wp2_with fail;go_loopw [8] (λi wr=>∃k:Nat,k<=m/\i= .int .i64 k/\Hid (Fr NoT w wr)/\Hid (zcr p xs=zcr p (Cds.drop k xs))) (λi _=>m - (intOf i).toNat);case atStart=>exact⟨0,Nat.zero_le _,rfl,Fr.refl _ _,rfl⟩
 case round=>
  obtain⟨k,hk,rfl,hb,Ha⟩:=hrel;by_cases Hr:k < m
  ·obtain⟨a0,a1,a2,a3,ar,hd⟩:=Cds.drop_cons (show k < xs.len from by rw[<-HM.out];exact Hr);obtain⟨b,o,rfl,Hd⟩:=HX.2.2 (by rw[<-HM.out];omega);have Hb:=(CdR.keep (hb.same λb hb=>⟨HS b hb,id⟩) Hd).drop k;rw[hd]at Hb;obtain⟨⟨Hf,_,r0,_,c0,c3⟩,⟨A1,q1,c1,s1⟩,⟨A2,q2,c2,s2⟩,_⟩:=Hb;have Gf:b < wr.heap.size:=ltq (HS _ Hf) hb.size;have Hl:(k:Int) < (m:Int):=by omega
   have Fb:(0:Int)<=(k:Int):=by omega
   have HC:=hdq (HA k a0 a1 a2 a3 ar hd r0 wr A1 q1 A2 q2 hb.out s1 s2);have Hj:=hdq (Ha.trans (zhH hd));have HB:=hdq hb.out;clear hd Hd Ha hb Hf s1 s2 r0;go_wp2_with fail;refine HC.mono ?_;rintro _ w1 ⟨rfl,Gi⟩;have Hu:=hdq (HB.trans Gi);clear Gi c0 c1 c2 c3;cases hp:p a0 a1 a2 a3
   ·have HF:=hdq (show zcr p xs=false from by rw[Hj.out,hp];rfl);clear hp Hj;go_wp2_with fail;go_ret;exact⟨k,by rw[HF.out];simp,rfl,Hu.out⟩
   ·have HN:=hdq (show zcr p xs=zcr p (Cds.drop (k+1) xs)from by rw[Hj.out,hp];rfl);clear hp Hj;go_wp2_with fail;go_roundw;case rel=>exact⟨k+1,by omega,by go_num,Hu.out,HN⟩
    case measure=>simp[intOf];omega
  ·have HF:=hdq (show zcr p xs=true from by rw[Ha.out,Cds.drop_nil (by rw[<-HM.out];omega)];rfl);have HB:=hdq hb.out;clear Ha hb;go_wp2_with fail;go_ret;exact⟨-1,by rw[HF.out];simp,rfl,HB.out⟩
theorem conCd (p:Int->Exs->Cds->Int->Bool)(xs:Cds)(A:Option Addr)(c:Nat)(g:Nat)(cap:Array Value)(w:World)(S:Nat->Prop)(Z:Prop)(hS:∀b,S b->b < w.heap.size)(hx:SlR (λb o=>CdR w S Z xs b o) xs.len 64 A c)(hent:Enters Tryz.prog g)(Hz:AskCd g cap w S Z (λa0 a1 a2 a3=> !(p a0 a1 a2 a3)) xs):
  Calls Tryz.prog 181 #[.slice A xs.len c,.func (.func g) #[] cap] w (zae (!(zcr p xs)) w):=by
 have HC:=hdq (idxCd p xs A c g cap w S Z hS hx hent Hz);clear Hz hent hx hS;go_enter Tryz.func181,Tryz.ntmps181;go_wp2_with fail;refine HC.mono ?_;rintro e w1 ⟨n,hn,rfl,hb⟩;have HN:=hdq hn;have HB:=hdq hb;clear hn hb;go_wp2_with fail;go_ret;exact⟨by rw[<-HN.out];rfl,HB.out⟩
theorem clCd (p:Int->Exs->Cds->Int->Bool)(xs:Cds)(g:Nat)(cap:Array Value)(w:World)(S:Nat->Prop)(Z:Prop)(hS:∀b,S b->b < w.heap.size)(B:Nat)(FP:Bk w B 203 #[.func (.func g) #[] cap])(hent:Enters Tryz.prog g)(Hz:AskCd g cap w S Z p xs):AskCd 182 #[.pointer (some ⟨B,0,none⟩)] w S Z (λa0 a1 a2 a3=> !(p a0 a1 a2 a3)) xs:=by
 intro i a0 a1 a2 a3 ar hd r0 W A1 q1 A2 q2 hw s1 s2;have Hc:Fr NoT W (W.alloc (.cells #[.int .u8 a0,.slice A1 a1.len q1,.slice A2 a2.len q2,.int .i64 a3] 160)):=(Fr.refl _ _).alloc _;have HC:=hdq (Hz i a0 a1 a2 a3 ar hd r0 _ A1 q1 A2 q2 (hw.trans Hc) (s1.imp λ_ _ hx=>ExR.keep (Hc.same λb hb=>⟨ltq (hS b hb) hw.size,id⟩) hx) (s2.imp λ_ _ hx=>CdR.keep (Hc.same λb hb=>⟨ltq (hS b hb) hw.size,id⟩) hx));have hb:=FP.fr0 hw;have c0:=hb.cell 0;have hl:=hb.lt;simp only[List.getElem?_toArray,List.getElem?_cons_zero]at c0;have Ga:=hdq Hc;clear Hz hd hw Hc hS FP hb s1 s2 r0;unfold Enters at hent;go_enter Tryz.func182,Tryz.ntmps182;go_wp2_with fail;refine HC.mono ?_;rintro _ w1 ⟨rfl,hb⟩;have HB:=hdq (Ga.trans hb);clear hb;go_wp2_with fail;go_ret;exact⟨rfl,HB.out⟩
theorem zfC (p:Int->Exs->Cds->Int->Bool)(xs:Cds)(A:Option Addr)(c:Nat)(g:Nat)(cap:Array Value)(w:World)(S:Nat->Prop)(Z:Prop)(hS:∀b,S b->b < w.heap.size)(hx:SlR (λb o=>CdR w S Z xs b o) xs.len 64 A c)(hent:Enters Tryz.prog g)(Hz:AskCd g cap w S Z p xs):
  Calls Tryz.prog 129 #[.slice A xs.len c,.func (.func g) #[] cap] w (zae (zcr p xs) w):=by
 have Ut:= @makeF Tryz.prog;have Hc:Fr NoT w (w.alloc (.cells #[.func (.func g) #[] cap] 203)):=(Fr.refl _ _).alloc _;have Ko:∀b,S b->b < (w.alloc (.cells #[.func (.func g) #[] cap] 203)).heap.size :=λb hb=>ltq (hS b hb) Hc.size;have HC:=hdq (conCd p xs A c 182 #[.pointer (some ⟨w.heap.size,0,none⟩)] _ S Z Ko (hx.imp λ_ _ hx=>CdR.keep (Hc.same λb hb=>⟨hS b hb,id⟩) hx) (enters_of Tryz.func182 (by kernel_rfl) rfl)
  (clCd p xs g cap _ S Z Ko w.heap.size (Bk.new _ _ _) hent (Hz.next Hc)))
 have Ga:=hdq Hc;clear Hz hent hx hS Ko Hc;go_enter Tryz.func129,Tryz.ntmps129;go_wp2_with fail;refine HC.mono ?_;rintro _ w1 ⟨rfl,hb⟩;have HB:=hdq (Ga.trans hb);clear hb;go_wp2_with fail;go_ret;exact⟨by simp,HB.out⟩
def zcs (p:Int->ByteArray->Exs->Cds->Sts->Sts->Int->Bool):Sts->Bool
 | .nil =>true
 | .cons a0 a1 a2 a3 a4 a5 a6 ar=>p a0 a1 a2 a3 a4 a5 a6&&zcs p ar
theorem zhI {p:Int->ByteArray->Exs->Cds->Sts->Sts->Int->Bool}{xs:Sts}{i:Nat}{a0 a1 a2 a3 a4 a5 a6 ar}(hd:Sts.drop i xs= .cons a0 a1 a2 a3 a4 a5 a6 ar):zcs p (Sts.drop i xs)=(p a0 a1 a2 a3 a4 a5 a6&&zcs p (Sts.drop (i+1) xs)):=by
 rw[Sts.drop_succ i xs hd,hd];rfl
def AskSt (g:Nat)(cap:Array Value)(w:World)(S:Nat->Prop)(Z:Prop)(p:Int->ByteArray->Exs->Cds->Sts->Sts->Int->Bool)(xs:Sts):Prop:=
 ∀(i:Nat)(a0:Int)(a1:ByteArray)(a2:Exs)(a3:Cds)(a4:Sts)(a5:Sts)(a6:Int)(ar:Sts),Sts.drop i xs= .cons a0 a1 a2 a3 a4 a5 a6 ar->in8 a0->∀(W:World)(A2:Option Addr)(q2:Nat)(A3:Option Addr)(q3:Nat)(A4:Option Addr)(q4:Nat)(A5:Option Addr)(q5:Nat),Fr NoT w W->SlR (λb o=>ExR W S Z a2 b o) a2.len 64 A2 q2->SlR (λb o=>CdR W S Z a3 b o) a3.len 64 A3 q3->SlR (λb o=>StR W S Z a4 b o) a4.len 128 A4 q4->SlR (λb o=>StR W S Z a5 b o) a5.len 128 A5 q5->Calls Tryz.prog g (#[.agg #[.int .u8 a0,.string a1,.slice A2 a2.len q2,.slice A3 a3.len q3,.slice A4 a4.len q4,.slice A5 a5.len q5,.int .i64 a6]]++cap) W (zae (p a0 a1 a2 a3 a4 a5 a6) W)
theorem AskSt.next {g:Nat}{cap:Array Value}{w w1:World}{S:Nat->Prop}{Z:Prop}{p:Int->ByteArray->Exs->Cds->Sts->Sts->Int->Bool}{xs:Sts}(h:AskSt g cap w S Z p xs)(hf:Fr NoT w w1):AskSt g cap w1 S Z p xs:=
 λi a0 a1 a2 a3 a4 a5 a6 ar hd r0 W A2 q2 A3 q3 A4 q4 A5 q5 hw s2 s3 s4 s5=>h i a0 a1 a2 a3 a4 a5 a6 ar hd r0 W A2 q2 A3 q3 A4 q4 A5 q5 (hf.trans hw) s2 s3 s4 s5
theorem idxSt (p:Int->ByteArray->Exs->Cds->Sts->Sts->Int->Bool)(xs:Sts)(A:Option Addr)(c:Nat)(g:Nat)(cap:Array Value)(w:World)(S:Nat->Prop)(Z:Prop)(hS:∀b,S b->b < w.heap.size)(hx:SlR (λb o=>StR w S Z xs b o) xs.len 128 A c)(hent:Enters Tryz.prog g)(Hz:AskSt g cap w S Z (λa0 a1 a2 a3 a4 a5 a6=> !(p a0 a1 a2 a3 a4 a5 a6)) xs):
  Calls Tryz.prog 177 #[.slice A xs.len c,.func (.func g) #[] cap] w (IdxP (!(zcs p xs)) w):=by
 have hl:xs.len<=9223372036854775807:=leq9 hx.1 hx.2.1.1;have HA:=hdq Hz;have HX:=hdq hx;have HS:=hdq hS;obtain⟨m,hm⟩:=nmq xs.len;rw[<-hm]at hl ⊢;have HM:=hdq hm;clear Hz hx hS hm;unfold Enters at hent;go_enter Tryz.func177,Tryz.ntmps177;go_wp2_with fail;go_loopw [8] (λi wr=>∃k:Nat,k<=m/\i= .int .i64 k/\Hid (Fr NoT w wr)/\Hid (zcs p xs=zcs p (Sts.drop k xs))) (λi _=>m - (intOf i).toNat);case atStart=>exact⟨0,Nat.zero_le _,rfl,Fr.refl _ _,rfl⟩
 case round=>
  obtain⟨k,hk,rfl,hb,Ha⟩:=hrel;by_cases Hr:k < m
  ·obtain⟨a0,a1,a2,a3,a4,a5,a6,ar,hd⟩:=Sts.drop_cons (show k < xs.len from by rw[<-HM.out];exact Hr);obtain⟨b,o,rfl,Hd⟩:=HX.2.2 (by rw[<-HM.out];omega);have Hb:=(StR.keep (hb.same λb hb=>⟨HS b hb,id⟩) Hd).drop k;rw[hd]at Hb;obtain⟨⟨Hf,_,r0,_,c0,c1,c6⟩,⟨A2,q2,c2,s2⟩,⟨A3,q3,c3,s3⟩,⟨A4,q4,c4,s4⟩,⟨A5,q5,c5,s5⟩,_⟩:=Hb;have Gf:b < wr.heap.size:=ltq (HS _ Hf) hb.size;have Hl:(k:Int) < (m:Int):=by omega
   have Fb:(0:Int)<=(k:Int):=by omega
   have HC:=hdq (HA k a0 a1 a2 a3 a4 a5 a6 ar hd r0 wr A2 q2 A3 q3 A4 q4 A5 q5 hb.out s2 s3 s4 s5);have Hj:=hdq (Ha.trans (zhI hd));have HB:=hdq hb.out;clear hd Hd Ha hb Hf s2 s3 s4 s5 r0;go_wp2_with fail;refine HC.mono ?_;rintro _ w1 ⟨rfl,Gi⟩;have Hu:=hdq (HB.trans Gi);clear Gi c0 c1 c2 c3 c4 c5 c6;cases hp:p a0 a1 a2 a3 a4 a5 a6
   ·have HF:=hdq (show zcs p xs=false from by rw[Hj.out,hp];rfl);clear hp Hj;go_wp2_with fail;go_ret;exact⟨k,by rw[HF.out];simp,rfl,Hu.out⟩
   ·have HN:=hdq (show zcs p xs=zcs p (Sts.drop (k+1) xs)from by rw[Hj.out,hp];rfl);clear hp Hj;go_wp2_with fail;go_roundw;case rel=>exact⟨k+1,by omega,by go_num,Hu.out,HN⟩
    case measure=>simp[intOf];omega
  ·have HF:=hdq (show zcs p xs=true from by rw[Ha.out,Sts.drop_nil (by rw[<-HM.out];omega)];rfl);have HB:=hdq hb.out;clear Ha hb;go_wp2_with fail;go_ret;exact⟨-1,by rw[HF.out];simp,rfl,HB.out⟩
theorem conSt (p:Int->ByteArray->Exs->Cds->Sts->Sts->Int->Bool)(xs:Sts)(A:Option Addr)(c:Nat)(g:Nat)(cap:Array Value)(w:World)(S:Nat->Prop)(Z:Prop)(hS:∀b,S b->b < w.heap.size)(hx:SlR (λb o=>StR w S Z xs b o) xs.len 128 A c)(hent:Enters Tryz.prog g)(Hz:AskSt g cap w S Z (λa0 a1 a2 a3 a4 a5 a6=> !(p a0 a1 a2 a3 a4 a5 a6)) xs):
  Calls Tryz.prog 123 #[.slice A xs.len c,.func (.func g) #[] cap] w (zae (!(zcs p xs)) w):=by
 have HC:=hdq (idxSt p xs A c g cap w S Z hS hx hent Hz);clear Hz hent hx hS;go_enter Tryz.func123,Tryz.ntmps123;go_wp2_with fail;refine HC.mono ?_;rintro e w1 ⟨n,hn,rfl,hb⟩;have HN:=hdq hn;have HB:=hdq hb;clear hn hb;go_wp2_with fail;go_ret;exact⟨by rw[<-HN.out];rfl,HB.out⟩
theorem clSt (p:Int->ByteArray->Exs->Cds->Sts->Sts->Int->Bool)(xs:Sts)(g:Nat)(cap:Array Value)(w:World)(S:Nat->Prop)(Z:Prop)(hS:∀b,S b->b < w.heap.size)(B:Nat)(FP:Bk w B 118 #[.func (.func g) #[] cap])(hent:Enters Tryz.prog g)(Hz:AskSt g cap w S Z p xs):AskSt 124 #[.pointer (some ⟨B,0,none⟩)] w S Z (λa0 a1 a2 a3 a4 a5 a6=> !(p a0 a1 a2 a3 a4 a5 a6)) xs:=by
 intro i a0 a1 a2 a3 a4 a5 a6 ar hd r0 W A2 q2 A3 q3 A4 q4 A5 q5 hw s2 s3 s4 s5;have Hc:Fr NoT W (W.alloc (.cells #[.int .u8 a0,.string a1,.slice A2 a2.len q2,.slice A3 a3.len q3,.slice A4 a4.len q4,.slice A5 a5.len q5,.int .i64 a6] 39)):=(Fr.refl _ _).alloc _;have HC:=hdq (Hz i a0 a1 a2 a3 a4 a5 a6 ar hd r0 _ A2 q2 A3 q3 A4 q4 A5 q5 (hw.trans Hc) (s2.imp λ_ _ hx=>ExR.keep (Hc.same λb hb=>⟨ltq (hS b hb) hw.size,id⟩) hx) (s3.imp λ_ _ hx=>CdR.keep (Hc.same λb hb=>⟨ltq (hS b hb) hw.size,id⟩) hx) (s4.imp λ_ _ hx=>StR.keep (Hc.same λb hb=>⟨ltq (hS b hb) hw.size,id⟩) hx) (s5.imp λ_ _ hx=>StR.keep (Hc.same λb hb=>⟨ltq (hS b hb) hw.size,id⟩) hx));have hb:=FP.fr0 hw;have c0:=hb.cell 0;have hl:=hb.lt;simp only[List.getElem?_toArray,List.getElem?_cons_zero]at c0;have Ga:=hdq Hc;clear Hz hd hw Hc hS FP hb s2 s3 s4 s5 r0;unfold Enters at hent;go_enter Tryz.func124,Tryz.ntmps124;go_wp2_with fail;refine HC.mono ?_;rintro _ w1 ⟨rfl,hb⟩;have HB:=hdq (Ga.trans hb);clear hb;go_wp2_with fail;go_ret;exact⟨rfl,HB.out⟩
theorem zdr (p:Int->ByteArray->Exs->Cds->Sts->Sts->Int->Bool)(xs:Sts)(A:Option Addr)(c:Nat)(g:Nat)(cap:Array Value)(w:World)(S:Nat->Prop)(Z:Prop)(hS:∀b,S b->b < w.heap.size)(hx:SlR (λb o=>StR w S Z xs b o) xs.len 128 A c)(hent:Enters Tryz.prog g)(Hz:AskSt g cap w S Z p xs):
  Calls Tryz.prog 55 #[.slice A xs.len c,.func (.func g) #[] cap] w (zae (zcs p xs) w):=by
 have Ut:= @makeF Tryz.prog;have Hc:Fr NoT w (w.alloc (.cells #[.func (.func g) #[] cap] 118)):=(Fr.refl _ _).alloc _;have Ko:∀b,S b->b < (w.alloc (.cells #[.func (.func g) #[] cap] 118)).heap.size :=λb hb=>ltq (hS b hb) Hc.size;have HC:=hdq (conSt p xs A c 124 #[.pointer (some ⟨w.heap.size,0,none⟩)] _ S Z Ko (hx.imp λ_ _ hx=>StR.keep (Hc.same λb hb=>⟨hS b hb,id⟩) hx) (enters_of Tryz.func124 (by kernel_rfl) rfl)
  (clSt p xs g cap _ S Z Ko w.heap.size (Bk.new _ _ _) hent (Hz.next Hc)))
 have Ga:=hdq Hc;clear Hz hent hx hS Ko Hc;go_enter Tryz.func55,Tryz.ntmps55;go_wp2_with fail;refine HC.mono ?_;rintro _ w1 ⟨rfl,hb⟩;have HB:=hdq (Ga.trans hb);clear hb;go_wp2_with fail;go_ret;exact⟨by simp,HB.out⟩
def Dr (w w':World):Prop:=∃q,w'=w.drewN q
theorem Dr.refl (w:World):Dr w w:=⟨0,rfl⟩
theorem Dr.trans {a b c:World}(h:Dr a b)(k:Dr b c):Dr a c:=by
 obtain⟨n,rfl⟩:=h;obtain⟨m,rfl⟩:=k;exact⟨n+m,by rw[World.drewN_drewN]⟩
theorem Dr.more (w:World)(n:Nat):Dr w (w.drewN n):=⟨n,rfl⟩
theorem Dr.same {S:Nat->Prop}{w w':World}(h:Dr w w'):SameS S w w':=by
 obtain⟨n,rfl⟩:=h;exact λ_ _=>⟨rfl,rfl⟩
theorem Dr.fr {w w':World}(h:Dr w w'):Fr NoT w w':=by
 obtain⟨n,rfl⟩:=h;exact(Fr.refl _ _).drewN _
def IntD (n:Int)(W:World)(e:Ending)(w':World):Prop:=e= .returned (.int .i64 n)/\Dr W w'
theorem zds {P:Program}{f:FuncId}{args:Array Value}{w:World}{n:Nat}{v:Int}(h:Calls P f args (w.drewN n) (IntD v (w.drewN n))):
  Calls P f args (w.drewN n) λe w''=>e= .returned (.int .i64 v)/\∃m,w''=w.drewN m:=
 h.mono λ_ _ ⟨he,m,hm⟩=>⟨he,n+m,by rw[hm,World.drewN_drewN]⟩
def szXF:Exs->Int->Int->Int
 | .nil,n,_=>n
 | .cons _ nm _ args _ r,n,most=>if n<=most then szXF r (wrap64 (wrap64 (wrap64 (n+1)+(nm.size:Int))+szXF args 0 (wrap64 (most - n)))) most else n
theorem ziJ {xs:Exs}{n most:Int}(h:¬n<=most):szXF xs n most=n:=by
 cases xs with
 |nil=>rfl
 |cons k nm m args at_ r=>show(if n<=most then _ else n)=n;rw[if_neg h]
theorem ziK {xs:Exs}{i:Nat}{n most:Int}{k nm m args at_ r}(hd:Exs.drop i xs= .cons k nm m args at_ r)(h:n<=most):
  szXF (Exs.drop i xs) n most=szXF (Exs.drop (i+1) xs) (wrap64 (wrap64 (wrap64 (n+1)+(nm.size:Int))+szXF args 0 (wrap64 (most - n)))) most:=by
 rw[Exs.drop_succ i xs hd,hd];show(if n<=most then _ else n)=_
 rw[if_pos h]
def SzX (xs:Exs):Prop:=∀(most:Int)(W:World)(S:Nat->Prop)(Z:Prop)(A:Option Addr)(c:Nat),(∀x,S x->x < W.heap.size)->SlR (λb o=>ExR W S Z xs b o) xs.len 64 A c->
 Calls Tryz.prog 73 #[.slice A xs.len c,.int .i64 most] W (IntD (szXF xs 0 most) W)
def SzXI (xs:Exs):Prop:=∀(i:Nat)(a0:Int)(a1:ByteArray)(a2:Int)(a3:Exs)(a4:Int)(ar:Exs),Exs.drop i xs= .cons a0 a1 a2 a3 a4 ar->SzX a3
theorem ziL (xs:Exs)(Ho:SzXI xs):SzX xs:=by
 intro most w S Z A c hS hx;have hl:xs.len<=9223372036854775807:=leq9 hx.1 hx.2.1.1;have HA:=hdq Ho;have HX:=hdq hx;have HS:=hdq hS;obtain⟨m,hm⟩:=nmq xs.len;rw[<-hm]at hl ⊢;have HM:=hdq hm;obtain⟨F,hF⟩:=nmq (szXF xs 0 most);rw[<-hF];have HF:=hdq hF;clear Ho hx hS hm hF;go_enter Tryz.func73,Tryz.ntmps73;go_wp2_with fail;go_loopw [5,6] (λn i wr=>∃(k:Nat)(v:Int),k<=m/\i= .int .i64 k/\n= .int .i64 v/\Hid (Dr w wr)/\Hid (F=szXF (Exs.drop k xs) v most)) (λ_ i _=>m - (intOf i).toNat);case atStart=>exact⟨0,0,Nat.zero_le _,rfl,rfl,Dr.refl _,HF.out⟩
 case round=>
  obtain⟨k,v,hk,rfl,rfl,hb,Ha⟩:=hrel;by_cases Hr:k < m
  ·by_cases hv:v<=most
   ·have FF:decide (v<=most)=true:=by simpa using hv
    obtain⟨a0,a1,a2,a3,a4,ar,hd⟩:=Exs.drop_cons (show k < xs.len from by rw[<-HM.out];exact Hr);obtain⟨B,o,rfl,Hd⟩:=HX.2.2 (by rw[<-HM.out];omega);have Hb:=(ExR.keep hb.same Hd).drop k;rw[hd]at Hb;obtain⟨⟨Hf,_,r0,r1,r2,c0,c1,c2,c4⟩,⟨A3,q3,c3,s3⟩,_⟩:=Hb;have Gf:B < wr.heap.size:=ltq (HS _ Hf) hb.fr.size;have Hl:(k:Int) < (m:Int):=by omega
    have Fb:(0:Int)<=(k:Int):=by omega
    have JS:=HA k a0 a1 a2 a3 a4 ar hd;have HR:=hdq (λ(mo:Int)(n:Nat)=>JS mo (wr.drewN n) S Z A3 q3 (λx hx=>ltq (HS x hx) hb.fr.size) (s3.imp λ_ _ hx=>ExR.keep (Dr.same ⟨n,rfl⟩) hx));have Hj:=hdq (Ha.trans (ziK hd hv));have HB:=hdq hb.out;clear hd Hd Ha hb Hf s3 r0 r1 r2 JS hv;go_wp2_with fail
    go_quiet ((go_at_call 73;exact zds (HR _ _)))
    go_wp2_with fail;go_roundw;case rel=>exact⟨k+1,_,by omega,by go_num,rfl,HB.trans (Dr.more _ _),Hj.out⟩
    case measure=>simp[intOf];omega
   ·have FF:decide (v<=most)=false:=by simpa using hv
    have HE:=hdq (show F=v from by rw[Ha.out,ziJ hv]);have HB:=hdq hb.out;have Hl:(k:Int) < (m:Int):=by omega
    clear Ha hb hv;go_wp2_with fail;go_ret;exact⟨by rw[HE.out];rfl,HB.out⟩
  ·have HE:=hdq (show F=v from by rw[Ha.out,Exs.drop_nil (by rw[<-HM.out];omega)];rfl);have HB:=hdq hb.out;have Hl:¬(k:Int) < (m:Int):=by omega
   clear Ha hb;go_wp2_with fail;go_ret;exact⟨by rw[HE.out];rfl,HB.out⟩
theorem zeS:∀xs:Exs,SzXI xs
 | .nil =>λi _ _ _ _ _ _ hd=>by cases i<;>simp[Exs.drop]at hd
 | .cons k0 k1 k2 k3 k4 kr=>λi _ _ _ _ _ _ hd=>by
  cases i with
  |zero=>
   simp only[Exs.drop]at hd;injection hd with e0 e1 e2 e3 e4 e5;subst e0 e1 e2 e3 e4 e5;exact ziL k3 (zeS k3)
  |succ i=>
   simp only[Exs.drop]at hd;exact zeS kr i _ _ _ _ _ _ hd
theorem ziM (xs:Exs):SzX xs:=ziL xs (zeS xs)
def zfD (v most:Int)(f:Int->Int):Int:=wrap64 (v+f (wrap64 (most - v)))
def szCF:Cds->Int->Int->Int
 | .nil,n,_=>n
 | .cons _ args of_ _ r,n,most=>if n<=most then szCF r (zfD (wrap64 (wrap64 (n+1)+szXF args 0 (wrap64 (most - n)))) most (szCF of_ 0)) most else n
theorem ziN {xs:Cds}{n most:Int}(h:¬n<=most):szCF xs n most=n:=by
 cases xs with
 |nil=>rfl
 |cons k args of_ at_ r=>show(if n<=most then _ else n)=n;rw[if_neg h]
theorem ziO {xs:Cds}{i:Nat}{n most:Int}{k args of_ at_ r}(hd:Cds.drop i xs= .cons k args of_ at_ r)(h:n<=most):
  szCF (Cds.drop i xs) n most=szCF (Cds.drop (i+1) xs) (zfD (wrap64 (wrap64 (n+1)+szXF args 0 (wrap64 (most - n)))) most (szCF of_ 0)) most:=by
 rw[Cds.drop_succ i xs hd,hd];show(if n<=most then _ else n)=_
 rw[if_pos h]
def SzC (xs:Cds):Prop:=∀(most:Int)(W:World)(S:Nat->Prop)(Z:Prop)(A:Option Addr)(c:Nat),(∀x,S x->x < W.heap.size)->SlR (λb o=>CdR W S Z xs b o) xs.len 64 A c->
 Calls Tryz.prog 74 #[.slice A xs.len c,.int .i64 most] W (IntD (szCF xs 0 most) W)
def SzCI (xs:Cds):Prop:=∀(i:Nat)(a0:Int)(a1:Exs)(a2:Cds)(a3:Int)(ar:Cds),Cds.drop i xs= .cons a0 a1 a2 a3 ar->SzC a2
theorem ziP (xs:Cds)(Ho:SzCI xs):SzC xs:=by
 intro most w S Z A c hS hx;have hl:xs.len<=9223372036854775807:=leq9 hx.1 hx.2.1.1;have HA:=hdq Ho;have HX:=hdq hx;have HS:=hdq hS;obtain⟨m,hm⟩:=nmq xs.len;rw[<-hm]at hl ⊢;have HM:=hdq hm;obtain⟨F,hF⟩:=nmq (szCF xs 0 most);rw[<-hF];have HF:=hdq hF;clear Ho hx hS hm hF;go_enter Tryz.func74,Tryz.ntmps74;go_wp2_with fail;go_loopw [5,6] (λn i wr=>∃(k:Nat)(v:Int),k<=m/\i= .int .i64 k/\n= .int .i64 v/\Hid (Dr w wr)/\Hid (F=szCF (Cds.drop k xs) v most)) (λ_ i _=>m - (intOf i).toNat);case atStart=>exact⟨0,0,Nat.zero_le _,rfl,rfl,Dr.refl _,HF.out⟩
 case round=>
  obtain⟨k,v,hk,rfl,rfl,hb,Ha⟩:=hrel;by_cases Hr:k < m
  ·by_cases hv:v<=most
   ·have FF:decide (v<=most)=true:=by simpa using hv
    obtain⟨a0,a1,a2,a3,ar,hd⟩:=Cds.drop_cons (show k < xs.len from by rw[<-HM.out];exact Hr);obtain⟨B,o,rfl,Hd⟩:=HX.2.2 (by rw[<-HM.out];omega);have Hb:=(CdR.keep hb.same Hd).drop k;rw[hd]at Hb;obtain⟨⟨Hf,_,r0,r1,c0,c3⟩,⟨A1,q1,c1,s1⟩,⟨A2,q2,c2,s2⟩,_⟩:=Hb;have Gf:B < wr.heap.size:=ltq (HS _ Hf) hb.fr.size;have Hl:(k:Int) < (m:Int):=by omega
    have Fb:(0:Int)<=(k:Int):=by omega
    have JS:=HA k a0 a1 a2 a3 ar hd;have Nm:=hdq (λ(mo:Int)=>ziM a1 mo wr S Z A1 q1 (λx hx=>ltq (HS x hx) hb.fr.size) s1);have Fu:=hdq (λ(mo:Int)(W:World)(h:Dr wr W)=>JS mo W S Z A2 q2 (λx hx=>ltq (HS x hx) (hb.trans h).fr.size) (s2.imp λ_ _ hx=>CdR.keep h.same hx));have Hj:=hdq (Ha.trans (ziO hd hv));have HB:=hdq hb.out;clear hd Hd Ha hb Hf s1 s2 r0 r1 JS hv;go_wp2_with fail;refine(Nm _).mono ?_;rintro _ w1 ⟨rfl,JT⟩;have c2':=(JT.fr.cell (p:=⟨B,o+k*4+2,none⟩) Gf id).trans c2;have Mv:=ltq Gf JT.fr.size;have X5:=hdq JT;clear JT c0 c1 c2 c3 Gf;go_wp2_with fail;refine(Fu _ _ X5.out).mono ?_;rintro _ w2 ⟨rfl,Rk⟩;have SW:=hdq ((HB.trans X5.out).trans Rk);clear Rk c2' Mv;go_wp2_with fail;go_roundw;case rel=>exact⟨k+1,_,by omega,by go_num,rfl,SW.out,Hj.out⟩
    case measure=>simp[intOf];omega
   ·have FF:decide (v<=most)=false:=by simpa using hv
    have HE:=hdq (show F=v from by rw[Ha.out,ziN hv]);have HB:=hdq hb.out;have Hl:(k:Int) < (m:Int):=by omega
    clear Ha hb hv;go_wp2_with fail;go_ret;exact⟨by rw[HE.out];rfl,HB.out⟩
  ·have HE:=hdq (show F=v from by rw[Ha.out,Cds.drop_nil (by rw[<-HM.out];omega)];rfl);have HB:=hdq hb.out;have Hl:¬(k:Int) < (m:Int):=by omega
   clear Ha hb;go_wp2_with fail;go_ret;exact⟨by rw[HE.out];rfl,HB.out⟩
theorem zeT:∀xs:Cds,SzCI xs
 | .nil =>λi _ _ _ _ _ hd=>by cases i<;>simp[Cds.drop]at hd
 | .cons k0 k1 k2 k3 kr=>λi _ _ _ _ _ hd=>by
  cases i with
  |zero=>
   simp only[Cds.drop]at hd;injection hd with e0 e1 e2 e3 e4;subst e0 e1 e2 e3 e4;exact ziP k2 (zeT k2)
  |succ i=>
   simp only[Cds.drop]at hd;exact zeT kr i _ _ _ _ _ hd
theorem zmx (xs:Cds):SzC xs:=ziP xs (zeT xs)
def szS1 (v most:Int)(n:Nat)(args:Exs):Int:=wrap64 (wrap64 (wrap64 (v+1)+(n:Int))+szXF args 0 (wrap64 (most - v)))
def szSF:Sts->Int->Int->Int
 | .nil,n,_=>n
 | .cons _ nm args cond body els _ r,n,most=>if n<=most then szSF r (zfD (zfD (zfD (szS1 n most nm.size args) most (szCF cond 0)) most (szSF body 0)) most (szSF els 0)) most else n
theorem ziQ {xs:Sts}{n most:Int}(h:¬n<=most):szSF xs n most=n:=by
 cases xs with
 |nil=>rfl
 |cons k nm args cond body els at_ r=>show(if n<=most then _ else n)=n;rw[if_neg h]
theorem ziR {xs:Sts}{i:Nat}{n most:Int}{k nm args cond body els at_ r}(hd:Sts.drop i xs= .cons k nm args cond body els at_ r)(h:n<=most):
  szSF (Sts.drop i xs) n most=szSF (Sts.drop (i+1) xs) (zfD (zfD (zfD (szS1 n most nm.size args) most (szCF cond 0)) most (szSF body 0)) most (szSF els 0)) most:=by
 rw[Sts.drop_succ i xs hd,hd];show(if n<=most then _ else n)=_
 rw[if_pos h]
def SzS (xs:Sts):Prop:=∀(most:Int)(W:World)(S:Nat->Prop)(Z:Prop)(A:Option Addr)(c:Nat),(∀x,S x->x < W.heap.size)->SlR (λb o=>StR W S Z xs b o) xs.len 128 A c->
 Calls Tryz.prog 22 #[.slice A xs.len c,.int .i64 most] W (IntD (szSF xs 0 most) W)
def SzSI (xs:Sts):Prop:=∀(i:Nat)(a0:Int)(a1:ByteArray)(a2:Exs)(a3:Cds)(a4 a5:Sts)(a6:Int)(ar:Sts),Sts.drop i xs= .cons a0 a1 a2 a3 a4 a5 a6 ar->SzS a4/\SzS a5
theorem zgn (xs:Sts)(Ho:SzSI xs):SzS xs:=by
 intro most w S Z A c hS hx;have hl:xs.len<=9223372036854775807:=leq9 hx.1 hx.2.1.1;have HA:=hdq Ho;have HX:=hdq hx;have HS:=hdq hS;obtain⟨m,hm⟩:=nmq xs.len;rw[<-hm]at hl ⊢;have HM:=hdq hm;obtain⟨F,hF⟩:=nmq (szSF xs 0 most);rw[<-hF];have HF:=hdq hF;clear Ho hx hS hm hF;go_enter Tryz.func22,Tryz.ntmps22;go_wp2_with fail;go_loopw [5,6] (λn i wr=>∃(k:Nat)(v:Int),k<=m/\i= .int .i64 k/\n= .int .i64 v/\Hid (Dr w wr)/\Hid (F=szSF (Sts.drop k xs) v most)) (λ_ i _=>m - (intOf i).toNat);case atStart=>exact⟨0,0,Nat.zero_le _,rfl,rfl,Dr.refl _,HF.out⟩
 case round=>
  obtain⟨k,v,hk,rfl,rfl,hb,Ha⟩:=hrel;by_cases Hr:k < m
  ·by_cases hv:v<=most
   ·have FF:decide (v<=most)=true:=by simpa using hv
    obtain⟨a0,a1,a2,a3,a4,a5,a6,ar,hd⟩:=Sts.drop_cons (show k < xs.len from by rw[<-HM.out];exact Hr);obtain⟨B,o,rfl,Hd⟩:=HX.2.2 (by rw[<-HM.out];omega);have Hb:=(StR.keep hb.same Hd).drop k;rw[hd]at Hb;obtain⟨⟨Hf,_,r0,r1,c0,c1,c6⟩,⟨A2,q2,c2,s2⟩,⟨A3,q3,c3,s3⟩,⟨A4,q4,c4,s4⟩,⟨A5,q5,c5,s5⟩,_⟩:=Hb;have Gf:B < wr.heap.size:=ltq (HS _ Hf) hb.fr.size;have Hl:(k:Int) < (m:Int):=by omega
    have Fb:(0:Int)<=(k:Int):=by omega
    obtain⟨KZ,Lr⟩:=HA k a0 a1 a2 a3 a4 a5 a6 ar hd;have Nn:∀W,Dr wr W->∀x,S x->x < W.heap.size:=λW h x hx=>ltq (HS x hx) (hb.trans h).fr.size;have Nm:=hdq (λ(mo:Int)(n:Nat)=>ziM a2 mo (wr.drewN n) S Z A2 q2 (Nn _ ⟨n,rfl⟩) (s2.imp λ_ _ hx=>ExR.keep (Dr.same ⟨n,rfl⟩) hx));have Fu:=hdq (λ(mo:Int)(W:World)(h:Dr wr W)=>zmx a3 mo W S Z A3 q3 (Nn W h) (s3.imp λ_ _ hx=>CdR.keep h.same hx));have Mw:=hdq (λ(mo:Int)(W:World)(h:Dr wr W)=>KZ mo W S Z A4 q4 (Nn W h) (s4.imp λ_ _ hx=>StR.keep h.same hx));have Q2:=hdq (λ(mo:Int)(W:World)(h:Dr wr W)=>Lr mo W S Z A5 q5 (Nn W h) (s5.imp λ_ _ hx=>StR.keep h.same hx));have Hj:=hdq (Ha.trans (ziR hd hv));have HB:=hdq hb.out;clear hd Hd Ha hb Hf s2 s3 s4 s5 r0 r1 KZ Lr hv Nn;go_wp2_with fail
    go_quiet ((go_at_call 73;exact zds (Nm _ _)))
    obtain⟨w1,Hc⟩:=nmq (wr.drewN nq);rw[<-Hc];have JT:Dr wr w1:=⟨nq,Hc⟩;have d3:=(JT.fr.cell (p:=⟨B,o+k*7+3,none⟩) Gf id).trans c3;have d4:=(JT.fr.cell (p:=⟨B,o+k*7+4,none⟩) Gf id).trans c4;have d5:=(JT.fr.cell (p:=⟨B,o+k*7+5,none⟩) Gf id).trans c5;have Mv:=ltq Gf JT.fr.size;have X5:=hdq JT;clear JT c0 c1 c2 c3 c4 c5 c6 Gf Hc;go_wp2_with fail;refine(Fu _ _ X5.out).mono ?_;rintro _ w2 ⟨rfl,Rk⟩;have e4:=(Rk.fr.cell (p:=⟨B,o+k*7+4,none⟩) Mv id).trans d4;have e5:=(Rk.fr.cell (p:=⟨B,o+k*7+5,none⟩) Mv id).trans d5;have Fv:=ltq Mv Rk.fr.size;have SW:=hdq (X5.trans Rk);clear Rk d3 d4 d5 Mv;go_wp2_with fail;refine(Mw _ _ SW.out).mono ?_;rintro _ w3 ⟨rfl,gq⟩;have g5:=(gq.fr.cell (p:=⟨B,o+k*7+5,none⟩) Fv id).trans e5;have Ls:=ltq Fv gq.fr.size;have vr:=hdq (SW.trans gq);clear gq e4 e5 Fv;go_wp2_with fail;refine(Q2 _ _ vr.out).mono ?_;rintro _ w4 ⟨rfl,vu⟩;have zx:=hdq (HB.trans (vr.trans vu));clear vu g5 Ls;go_wp2_with fail;go_roundw;case rel=>exact⟨k+1,_,by omega,by go_num,rfl,zx.out,Hj.out⟩
    case measure=>simp[intOf];omega
   ·have FF:decide (v<=most)=false:=by simpa using hv
    have HE:=hdq (show F=v from by rw[Ha.out,ziQ hv]);have HB:=hdq hb.out;have Hl:(k:Int) < (m:Int):=by omega
    clear Ha hb hv;go_wp2_with fail;go_ret;exact⟨by rw[HE.out];rfl,HB.out⟩
  ·have HE:=hdq (show F=v from by rw[Ha.out,Sts.drop_nil (by rw[<-HM.out];omega)];rfl);have HB:=hdq hb.out;have Hl:¬(k:Int) < (m:Int):=by omega
   clear Ha hb;go_wp2_with fail;go_ret;exact⟨by rw[HE.out];rfl,HB.out⟩
theorem zc6:∀xs:Sts,SzSI xs
 | .nil =>λi _ _ _ _ _ _ _ _ hd=>by cases i<;>simp[Sts.drop]at hd
 | .cons k0 k1 k2 k3 k4 k5 k6 kr=>λi _ _ _ _ _ _ _ _ hd=>by
  cases i with
  |zero=>
   simp only[Sts.drop]at hd;injection hd with e0 e1 e2 e3 e4 e5 e6 e7;subst e0 e1 e2 e3 e4 e5 e6 e7;exact⟨zgn k4 (zc6 k4),zgn k5 (zc6 k5)⟩
  |succ i=>
   simp only[Sts.drop]at hd;exact zc6 kr i _ _ _ _ _ _ _ _ hd
theorem ziS (xs:Sts):SzS xs:=zgn xs (zc6 xs)
def szVF:List Va->Int->Int->Int
 | [],n,_=>n
 |x::r,n,most=>if n<=most then szVF r (wrap64 (wrap64 (n+1)+(x.nm.size:Int))) most else n
theorem ziT {xs:List Va}{n most:Int}(h:¬n<=most):szVF xs n most=n:=by
 cases xs with
 |nil=>rfl
 |cons x r=>show(if n<=most then _ else n)=n;rw[if_neg h]
theorem ziU {xs:List Va}{i:Nat}{n most:Int}{a0 a1 ar}(hd:xs.drop i=(⟨a0,a1⟩:Va)::ar/\xs.drop (i+1)=ar)(h:n<=most):
  szVF (xs.drop i) n most=szVF (xs.drop (i+1)) (wrap64 (wrap64 (n+1)+(a0.size:Int))) most:=by
 rw[hd.1,hd.2];show(if n<=most then _ else n)=_
 rw[if_pos h]
theorem ziV (xs:List Va)(most:Int)(w:World)(S:Nat->Prop)(Z:Prop)(A:Option Addr)(c:Nat)(hS:∀x,S x->x < w.heap.size)(hx:SlR (λb o=>VaR w S Z xs b o) xs.length 24 A c):
  Calls Tryz.prog 23 #[.slice A xs.length c,.int .i64 most] w (IntD (szVF xs 0 most) w):=by
 have hl:xs.length<=9223372036854775807:=leq9 hx.1 hx.2.1.1;have HX:=hdq hx;have HS:=hdq hS;obtain⟨m,hm⟩:=nmq xs.length;rw[<-hm]at hl ⊢;have HM:=hdq hm;obtain⟨F,hF⟩:=nmq (szVF xs 0 most);rw[<-hF];have HF:=hdq hF;clear hx hS hm hF;go_enter Tryz.func23,Tryz.ntmps23;go_wp2_with fail;go_loop [5,6] (λn i=>∃(k:Nat)(v:Int),k<=m/\i= .int .i64 k/\n= .int .i64 v/\Hid (F=szVF (xs.drop k) v most)) (λ_ i=>m - (intOf i).toNat);case atStart=>exact⟨0,0,Nat.zero_le _,rfl,rfl,HF.out⟩
 case round=>
  obtain⟨k,v,hk,rfl,rfl,Ha⟩:=hrel;by_cases Hr:k < m
  ·by_cases hv:v<=most
   ·have FF:decide (v<=most)=true:=by simpa using hv
    obtain⟨⟨a0,a1⟩,ar,hd⟩:=zac (show k < xs.length from by rw[<-HM.out];exact Hr);obtain⟨B,o,rfl,Hd⟩:=HX.2.2 (by rw[<-HM.out];omega);have Hb:=Hd.drop k;rw[hd.1]at Hb;obtain⟨⟨Hf,_,r1,c0,c1⟩,_⟩:=Hb;have Gf:B < w.heap.size:=HS _ Hf;have Hl:(k:Int) < (m:Int):=by omega
    have Fb:(0:Int)<=(k:Int):=by omega
    simp only at c0 c1;have Hj:=hdq (Ha.trans (ziU hd hv));clear hd Hd Ha Hf r1 hv;go_wp2_with fail;go_round;case rel=>exact⟨k+1,_,by omega,by go_num,rfl,Hj.out⟩
    case measure=>simp[intOf];omega
   ·have FF:decide (v<=most)=false:=by simpa using hv
    have HE:=hdq (show F=v from by rw[Ha.out,ziT hv]);have Hl:(k:Int) < (m:Int):=by omega
    clear Ha hv;go_wp2_with fail;go_ret;exact⟨by rw[HE.out];rfl,Dr.refl _⟩
  ·have HE:=hdq (show F=v from by rw[Ha.out,List.drop_eq_nil_of_le (by rw[<-HM.out];omega)];rfl);have Hl:¬(k:Int) < (m:Int):=by omega
   clear Ha;go_wp2_with fail;go_ret;exact⟨by rw[HE.out];rfl,Dr.refl _⟩
def AnyB (W:World)(e:Ending)(w':World):Prop:=∃b:Bool,e= .returned (.bool b)/\Fr NoT W w'
theorem zhJ (t:Tre)(w:World)(S:Nat->Prop)(Z:Prop)(Av Aa Ap Am:Option Addr)(cv ca cp cm:Nat)(hS:∀b,S b->b < w.heap.size)(hx:TrR w S Z t Av Aa Ap Am cv ca cp cm):
  Calls Tryz.prog 6 #[trV t Av Aa Ap Am cv ca cp cm] w (AnyB w):=by
 have l1:t.vars.length<=9223372036854775807:=leq9 hx.vars.1 hx.vars.2.1.1;have l2:t.arrays.length<=9223372036854775807:=leq9 hx.arrays.1 hx.arrays.2.1.1;have l3:t.procs.length<=9223372036854775807:=leq9 hx.procs.1 hx.procs.2.1.1;obtain⟨n1,Gk⟩:=nmq t.vars.length;obtain⟨n2,Gu⟩:=nmq t.arrays.length;obtain⟨n3,GJ⟩:=nmq t.procs.length;obtain⟨n4,GV⟩:=nmq t.main.len;obtain⟨w1,Hc⟩:=nmq (w.alloc (.cells #[.slice Av n1 cv,.slice Aa n2 ca,.slice Ap n3 cp,.slice Am n4 cm] 27));have Hi:Fr NoT w w1:=by rw[Hc];exact(Fr.refl _ _).alloc _
 have Hp:Bk w1 w.heap.size 27 #[.slice Av n1 cv,.slice Aa n2 ca,.slice Ap n3 cp,.slice Am n4 cm]:=by rw[Hc];exact Bk.new _ _ _
 have Ko:∀x,S x->x < w1.heap.size:=λx hx=>ltq (hS x hx) Hi.size;have Mv:TrR w1 S Z t Av Aa Ap Am cv ca cp cm:=hx.keep (Hi.same λb hb=>⟨hS b hb,id⟩);have Nm:=hdq (λ(mo:Int)(n:Nat)=>ziS t.main mo (w1.drewN n) S Z Am cm (λx hx=>Ko x hx) (Mv.main.imp λ_ _ hx=>StR.keep (Dr.same ⟨n,rfl⟩) hx));have Fu:=hdq (λ(mo:Int)(n:Nat)=>ziV t.vars mo (w1.drewN n) S Z Av cv (λx hx=>Ko x hx) (Mv.vars.imp λ_ _ hx=>VaR.keep (Dr.same ⟨n,rfl⟩) hx));rw[<-Gk]at Fu;rw[<-GV]at Nm;obtain⟨x0,x1,x2,x3,Hv⟩:=bk4 Hp;unfold trV;rw[<-Gk,<-Gu,<-GJ,<-GV];rw[<-Gk]at l1;rw[<-Gu]at l2;rw[<-GJ]at l3;have vw:=hdq Mv;have Ny:=hdq Ko;have Hn:=hdq Hi;have Gv:=hdq Hp;have Ga:=hdq Hc;have Le:=hdq Gu;have JO:=hdq GJ;clear Hi Hp Ko Mv hx hS Hc Gk Gu GJ GV;go_enter Tryz.func6,Tryz.ntmps6;go_wp2_with fail;rw[<-Ga.out]
 go_quiet ((first|(go_at_call 22;exact zds (Nm _ _))|(go_at_call 23;exact zds (Fu _ _))))
 obtain⟨w2,FU⟩:=nmq (w1.drewN nq);rw[<-FU];have Rk:Dr w1 w2:=⟨nq,FU⟩;have SW:=hdq Rk.fr;clear Rk FU x0 x1 x2 x3 Nm Fu;go_wp2_with fail;go_loopw [3,4] (λn i wr=>∃(k:Nat)(v:Int),k<=n2/\i= .int .i64 k/\n= .int .i64 v/\Hid (Fr NoT w1 wr)) (λ_ i _=>n2 - (intOf i).toNat);case atStart=>exact⟨0,_,Nat.zero_le _,rfl,rfl,SW.out⟩
 case round=>
  obtain⟨k,v,hk,rfl,rfl,hb⟩:=hrel;obtain⟨x0,x1,x2,x3,Hv⟩:=bk4 (Gv.fr0 hb.out);by_cases Xv:k < n2/\v<=5000
  ·obtain⟨Hr,hv⟩:=Xv;have FF:decide (v<=5000)=true:=by simpa using hv
   obtain⟨⟨a0,a1,a2⟩,ar,hd⟩:=zac (show k < t.arrays.length from by rw[<-Le.out];exact Hr);obtain⟨B,o,rfl,Hd⟩:=vw.arrays.2.2 (by rw[<-Le.out];omega);have Hb:=(ArR.keep (hb.same λx hx=>⟨Ny x hx,id⟩) Hd).drop k;rw[hd.1]at Hb;obtain⟨⟨Hf,_,r1,r2,c0,c1,c2⟩,_⟩:=Hb;have Gf:B < wr.heap.size:=ltq (Ny _ Hf) hb.size;have Hl:(k:Int) < (n2:Int):=by omega
   have Fb:(0:Int)<=(k:Int):=by omega
   simp only at c0 c1 c2;have HB:=hdq hb.out;clear hd Hd hb Hf r1 r2 hv;go_wp2_with fail;go_roundw;case rel=>exact⟨k+1,_,by omega,by go_num,rfl,HB.out⟩
   case measure=>simp[intOf];omega
  ·have JC:(¬(k:Int) < (n2:Int))\/((k:Int) < (n2:Int)/\decide (v<=5000)=false):=by
    simp only[decide_eq_false_iff_not];omega
   have HB:=hdq hb.out;clear hb Xv;rcases JC with Hl|⟨Hl,FF⟩;all_goals
    go_wp2_with fail;clear x0 x1 x2 x3 Hv Hl;obtain⟨wo,rfl⟩:∃wo:World,wo=wr:=⟨_,rfl⟩;go_loopw [3,5] (λn i wr=>∃(k:Nat)(v:Int),k<=n3/\i= .int .i64 k/\n= .int .i64 v/\Hid (Fr NoT w1 wr)) (λ_ i _=>n3 - (intOf i).toNat);case atStart=>exact⟨0,_,Nat.zero_le _,rfl,rfl,HB.out⟩
    case round=>
     clear HB;obtain⟨j,u,hj,rfl,rfl,hb⟩:=hrel;obtain⟨x0,x1,x2,x3,Hv⟩:=bk4 (Gv.fr0 hb.out);by_cases Xv:j < n3/\u<=5000
     ·obtain⟨Hr,hv⟩:=Xv;have JZ:decide (u<=5000)=true:=by simpa using hv
      obtain⟨⟨a0,a1,a2,a3⟩,ar,hd⟩:=zac (show j < t.procs.length from by rw[<-JO.out];exact Hr);obtain⟨B,o,rfl,Hd⟩:=vw.procs.2.2 (by rw[<-JO.out];omega);have Hb:=(PrR.keep (hb.same λx hx=>⟨Ny x hx,id⟩) Hd).drop j;rw[hd.1]at Hb;obtain⟨⟨Hf,_,r1,c0,c3⟩,⟨A1,q1,c1,s1⟩,⟨A2,q2,c2,s2⟩,_⟩:=Hb;have Gf:B < wr.heap.size:=ltq (Ny _ Hf) hb.size;have Nz:(j:Int) < (n3:Int):=by omega
      have X6:(0:Int)<=(j:Int):=by omega
      simp only at c0 c1 c2 c3 s1 s2;obtain⟨wa,Pr⟩:=nmq (wr.alloc (.cells #[.string a0,.slice A1 a1.length q1,.slice A2 a2.len q2,.int .i64 a3] 68));have K3:Fr NoT wr wa:=by rw[Pr];exact(Fr.refl _ _).alloc _
      have SX:Bk wa wr.heap.size 68 #[.string a0,.slice A1 a1.length q1,.slice A2 a2.len q2,.int .i64 a3]:=by rw[Pr];exact Bk.new _ _ _
      have Nn:∀W,Fr NoT wr W->∀x,S x->x < W.heap.size:=λW h x hx=>ltq (Ny x hx) (hb.trans h).size;have GW:∀W,Fr NoT wr W->SameS S wr W:=λW h=>h.same λx hx=>⟨ltq (Ny x hx) hb.size,id⟩;have Nm:=hdq (λ(mo:Int)(n:Nat)=>ziV a1 mo (wa.drewN n) S Z A1 q1 (Nn _ (K3.drewN n)) (s1.imp λ_ _ hx=>VaR.keep (GW _ (K3.drewN n)) hx));have Fu:=hdq (λ(mo:Int)(W:World)(h:Fr NoT wr W)=>ziS a2 mo W S Z A2 q2 (Nn _ h) (s2.imp λ_ _ hx=>StR.keep (GW _ h) hx));obtain⟨z0,z1,z2,z3,zl⟩:=bk4 SX;have HB:=hdq hb.out;have SY:=hdq K3;have zy:=hdq SX;have Vy:=hdq Pr;clear hd Hd hb Hf r1 hv s1 s2 Nn GW K3 SX Pr;go_wp2_with fail;rw[<-Vy.out];clear c0 c1 c2 c3 Gf x0 x1 x2 x3 Hv
      go_quiet ((go_at_call 23;exact zds (Nm _ _)))
      obtain⟨wb,gr⟩:=nmq (wa.drewN nq);rw[<-gr];have jm:Dr wa wb:=⟨nq,gr⟩;have MP:=zy.fr0 jm.fr;clear z0 z1 z2 z3 zl;obtain⟨z0,z1,z2,z3,zl⟩:=bk4 MP;have vx:=hdq (SY.trans jm.fr);clear jm gr MP;go_wp2_with fail;refine(Fu _ _ vx.out).mono ?_;rintro _ wc ⟨rfl,vy⟩;have zz:=hdq (HB.trans (vx.trans vy.fr));clear vy z0 z1 z2 z3;go_wp2_with fail;go_roundw;case rel=>exact⟨j+1,_,by omega,by go_num,rfl,zz.out⟩
      case measure=>simp[intOf];omega
     ·have JC:(¬(j:Int) < (n3:Int))\/((j:Int) < (n3:Int)/\decide (u<=5000)=false):=by
       simp only[decide_eq_false_iff_not];omega
      have HB:=hdq hb.out;clear hb Xv;rcases JC with Nz|⟨Nz,JZ⟩;all_goals
       go_wp2_with fail;go_ret;exact⟨_,rfl,Hn.trans HB.out⟩
