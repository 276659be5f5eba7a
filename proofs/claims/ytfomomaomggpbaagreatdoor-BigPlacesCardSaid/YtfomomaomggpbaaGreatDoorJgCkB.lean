/- Small. -/
import Derived.Test.YtfomomaomggpbaaGreatDoorJgLxFirst
import Derived.Deep.DeepCutAuto
set_option linter.all false
set_option maxHeartbeats 1600000
set_option maxRecDepth 100000
namespace Go.Proofs.YtfomomaomggpbaaGreatDoor
open Go.RowKit Go.Shelf
def zar (b:Bool)(W:World)(e:Ending)(w':World):Prop:=e= .returned (.bool b)/\Fr NoT W w'
theorem zao {α:Type}{l:List α}{k:Nat}(h:k < l.length):∃x r,l.drop k=x::r/\l.drop (k+1)=r:=
 ⟨_,_,List.drop_eq_getElem_cons h,rfl⟩
theorem bk4 {w:World}{g:Nat}{t:TypeId}{a b c d:Value}(h:Bk w g t #[a,b,c,d]):w.cell? ⟨g,0,none⟩=some a/\w.cell? ⟨g,1,none⟩=some b/\w.cell? ⟨g,2,none⟩=some c/\w.cell? ⟨g,3,none⟩=some d/\g < w.heap.size:=
 ⟨h.cell 0,h.cell 1,h.cell 2,h.cell 3,h.lt⟩
def IdxP (b:Bool)(W:World)(e:Ending)(w':World):Prop:=∃n:Int,decide (0<=n)=b/\e= .returned (.int .i64 n)/\Fr NoT W w'
def zdn (p:ByteArray->Int->Bool)(xs:List Va):Bool:=xs.all λx=>p x.nm x.at_
theorem zja {p:ByteArray->Int->Bool}{xs:List Va}{i:Nat}{a0 a1 ar}(hd:xs.drop i=(⟨a0,a1⟩:Va)::ar/\xs.drop (i+1)=ar):zdn p (xs.drop i)=(p a0 a1&&zdn p (xs.drop (i+1))):=by
 rw[hd.1,hd.2];rfl
def AskVa (g:Nat)(cap:Array Value)(w:World)(S:Nat->Prop)(Z:Prop)(p:ByteArray->Int->Bool)(xs:List Va):Prop:=
 ∀(i:Nat)(a0:ByteArray)(a1:Int)(ar:List Va),xs.drop i=(⟨a0,a1⟩:Va)::ar->∀(W:World),Fr NoT w W->Calls Tryz.prog g (#[.agg #[.string a0,.int .i64 a1]]++cap) W (zar (p a0 a1) W)
theorem AskVa.next {g:Nat}{cap:Array Value}{w w1:World}{S:Nat->Prop}{Z:Prop}{p:ByteArray->Int->Bool}{xs:List Va}(h:AskVa g cap w S Z p xs)(hf:Fr NoT w w1):AskVa g cap w1 S Z p xs:=
 λi a0 a1 ar hd W hw=>h i a0 a1 ar hd W (hf.trans hw)
theorem idxVa (p:ByteArray->Int->Bool)(xs:List Va)(A:Option Addr)(c:Nat)(g:Nat)(cap:Array Value)(w:World)(S:Nat->Prop)(Z:Prop)(hS:∀b,S b->b < w.heap.size)(hx:SlR (λb o=>VaR w S Z xs b o) xs.length 24 A c)(hent:Enters Tryz.prog g)(Hv:AskVa g cap w S Z (λa0 a1=> !(p a0 a1)) xs):
  Calls Tryz.prog 219 #[.slice A xs.length c,.func (.func g) #[] cap] w (IdxP (!(zdn p xs)) w):=by
 have hl:xs.length<=9223372036854775807:=aK hx.1 hx.2.1.1;have HA:=aA Hv;have HX:=aA hx;have HS:=aA hS;obtain⟨m,hm⟩:=aF xs.length;rw[<-hm]at hl ⊢;have HM:=aA hm;clear Hv hx hS hm;unfold Enters at hent;go_enter Tryz.func219,Tryz.ntmps219;go_wp2_with fail;go_loopw [8] (λi wr=>∃k:Nat,k<=m/\i= .int .i64 k/\Hid (Fr NoT w wr)/\Hid (zdn p xs=zdn p (xs.drop k))) (λi _=>m - (intOf i).toNat);case atStart=>exact⟨0,Nat.zero_le _,rfl,aH,rfl⟩
 case round=>
  obtain⟨k,hk,rfl,hb,Hb⟩:=hrel;by_cases Hk:k < m
  ·obtain⟨⟨a0,a1⟩,ar,hd⟩:=zao (show k < xs.length from by rw[<-HM.out];exact Hk);obtain⟨b,o,rfl,Hg⟩:=HX.2.2 (by rw[<-HM.out];omega);have Hq:=(VaR.keep (hb.same λb hb=>⟨HS b hb,id⟩) Hg).drop k;rw[hd.1]at Hq;obtain⟨⟨Gn,_,_,c0,c1⟩,_⟩:=Hq;have JC:b < wr.heap.size:=aM (HS _ Gn) hb.size;have Gj:(k:Int) < (m:Int):=by omega
   have G9:(0:Int)<=(k:Int):=by omega
   simp only at c0 c1;have HC:=aA (HA k a0 a1 ar hd.1 wr hb.out);have Gb:=aA (Hb.trans (zja hd));have HB:=aA hb.out;clear hd Hg Hb hb Gn;go_wp2_with fail;refine HC.mono ?_;rintro _ w1 ⟨rfl,Gz⟩;have Gw:=aA (HB.trans Gz);clear Gz c0 c1;cases hp:p a0 a1
   ·have HF:=aA (show zdn p xs=false from by rw[Gb.out,hp];rfl);clear hp Gb;go_wp2_with fail;go_ret;exact⟨k,by rw[HF.out];simp,rfl,Gw.out⟩
   ·have HN:=aA (show zdn p xs=zdn p (xs.drop (k+1))from by rw[Gb.out,hp];rfl);clear hp Gb;go_wp2_with fail;go_roundw;case rel=>exact⟨k+1,by omega,by go_num,Gw.out,HN⟩
    case measure=>simp[intOf];omega
  ·have HF:=aA (show zdn p xs=true from by rw[Hb.out,List.drop_eq_nil_of_le (by rw[<-HM.out];omega)];rfl);have HB:=aA hb.out;clear Hb hb;go_wp2_with fail;go_ret;exact⟨-1,by rw[HF.out];simp,rfl,HB.out⟩
theorem conVa (p:ByteArray->Int->Bool)(xs:List Va)(A:Option Addr)(c:Nat)(g:Nat)(cap:Array Value)(w:World)(S:Nat->Prop)(Z:Prop)(hS:∀b,S b->b < w.heap.size)(hx:SlR (λb o=>VaR w S Z xs b o) xs.length 24 A c)(hent:Enters Tryz.prog g)(Hv:AskVa g cap w S Z (λa0 a1=> !(p a0 a1)) xs):
  Calls Tryz.prog 162 #[.slice A xs.length c,.func (.func g) #[] cap] w (zar (!(zdn p xs)) w):=by
 have HC:=aA (idxVa p xs A c g cap w S Z hS hx hent Hv);clear Hv hent hx hS;go_enter Tryz.func162,Tryz.ntmps162;go_wp2_with fail;refine HC.mono ?_;rintro e w1 ⟨n,hn,rfl,hb⟩;have HN:=aA hn;have HB:=aA hb;clear hn hb;go_wp2_with fail;go_ret;exact⟨by rw[<-HN.out];rfl,HB.out⟩
theorem clVa (p:ByteArray->Int->Bool)(xs:List Va)(g:Nat)(cap:Array Value)(w:World)(S:Nat->Prop)(Z:Prop)(hS:∀b,S b->b < w.heap.size)(B:Nat)(Hr:Bk w B 209 #[.func (.func g) #[] cap])(hent:Enters Tryz.prog g)(Hv:AskVa g cap w S Z p xs):AskVa 163 #[.pointer (some ⟨B,0,none⟩)] w S Z (λa0 a1=> !(p a0 a1)) xs:=by
 intro i a0 a1 ar hd W hw;have Hc:Fr NoT W (W.alloc (.cells #[.string a0,.int .i64 a1] 77)):=aH.alloc _;have HC:=aA (Hv i a0 a1 ar hd _ (hw.trans Hc));have hb:=Hr.fr0 hw;have c0:=hb.cell 0;have hl:=hb.lt;simp only[List.getElem?_toArray,List.getElem?_cons_zero]at c0;have Ge:=aA Hc;clear Hv hd hw Hc hS Hr hb;unfold Enters at hent;go_enter Tryz.func163,Tryz.ntmps163;go_wp2_with fail;refine HC.mono ?_;rintro _ w1 ⟨rfl,hb⟩;have HB:=aA (Ge.trans hb);clear hb;go_wp2_with fail;go_ret;exact⟨rfl,HB.out⟩
theorem zkI (p:ByteArray->Int->Bool)(xs:List Va)(A:Option Addr)(c:Nat)(g:Nat)(cap:Array Value)(w:World)(S:Nat->Prop)(Z:Prop)(hS:∀b,S b->b < w.heap.size)(hx:SlR (λb o=>VaR w S Z xs b o) xs.length 24 A c)(hent:Enters Tryz.prog g)(Hv:AskVa g cap w S Z p xs):
  Calls Tryz.prog 92 #[.slice A xs.length c,.func (.func g) #[] cap] w (zar (zdn p xs) w):=by
 have JI:= @makeF Tryz.prog;have Hc:Fr NoT w (w.alloc (.cells #[.func (.func g) #[] cap] 209)):=aH.alloc _;have Ky:∀b,S b->b < (w.alloc (.cells #[.func (.func g) #[] cap] 209)).heap.size :=λb hb=>aM (hS b hb) Hc.size;have HC:=aA (conVa p xs A c 163 #[.pointer (some ⟨w.heap.size,0,none⟩)] _ S Z Ky (hx.imp λ_ _ hx=>VaR.keep (Hc.same λb hb=>⟨hS b hb,id⟩) hx) (enters_of Tryz.func163 (by kernel_rfl) rfl)
  (clVa p xs g cap _ S Z Ky w.heap.size (Bk.new _ _ _) hent (Hv.next Hc)))
 have Ge:=aA Hc;clear Hv hent hx hS Ky Hc;go_enter Tryz.func92,Tryz.ntmps92;go_wp2_with fail;refine HC.mono ?_;rintro _ w1 ⟨rfl,hb⟩;have HB:=aA (Ge.trans hb);clear hb;go_wp2_with fail;go_ret;exact⟨by simp,HB.out⟩
def zdo (p:ByteArray->Int->Int->Bool)(xs:List Arr):Bool:=xs.all λx=>p x.nm x.size x.at_
theorem zjb {p:ByteArray->Int->Int->Bool}{xs:List Arr}{i:Nat}{a0 a1 a2 ar}(hd:xs.drop i=(⟨a0,a1,a2⟩:Arr)::ar/\xs.drop (i+1)=ar):zdo p (xs.drop i)=(p a0 a1 a2&&zdo p (xs.drop (i+1))):=by
 rw[hd.1,hd.2];rfl
def AskAr (g:Nat)(cap:Array Value)(w:World)(S:Nat->Prop)(Z:Prop)(p:ByteArray->Int->Int->Bool)(xs:List Arr):Prop:=
 ∀(i:Nat)(a0:ByteArray)(a1:Int)(a2:Int)(ar:List Arr),xs.drop i=(⟨a0,a1,a2⟩:Arr)::ar->∀(W:World),Fr NoT w W->Calls Tryz.prog g (#[.agg #[.string a0,.int .i64 a1,.int .i64 a2]]++cap) W (zar (p a0 a1 a2) W)
theorem AskAr.next {g:Nat}{cap:Array Value}{w w1:World}{S:Nat->Prop}{Z:Prop}{p:ByteArray->Int->Int->Bool}{xs:List Arr}(h:AskAr g cap w S Z p xs)(hf:Fr NoT w w1):AskAr g cap w1 S Z p xs:=
 λi a0 a1 a2 ar hd W hw=>h i a0 a1 a2 ar hd W (hf.trans hw)
theorem idxAr (p:ByteArray->Int->Int->Bool)(xs:List Arr)(A:Option Addr)(c:Nat)(g:Nat)(cap:Array Value)(w:World)(S:Nat->Prop)(Z:Prop)(hS:∀b,S b->b < w.heap.size)(hx:SlR (λb o=>ArR w S Z xs b o) xs.length 32 A c)(hent:Enters Tryz.prog g)(Hv:AskAr g cap w S Z (λa0 a1 a2=> !(p a0 a1 a2)) xs):
  Calls Tryz.prog 226 #[.slice A xs.length c,.func (.func g) #[] cap] w (IdxP (!(zdo p xs)) w):=by
 have hl:xs.length<=9223372036854775807:=aK hx.1 hx.2.1.1;have HA:=aA Hv;have HX:=aA hx;have HS:=aA hS;obtain⟨m,hm⟩:=aF xs.length;rw[<-hm]at hl ⊢;have HM:=aA hm;clear Hv hx hS hm;unfold Enters at hent;go_enter Tryz.func226,Tryz.ntmps226;go_wp2_with fail;go_loopw [8] (λi wr=>∃k:Nat,k<=m/\i= .int .i64 k/\Hid (Fr NoT w wr)/\Hid (zdo p xs=zdo p (xs.drop k))) (λi _=>m - (intOf i).toNat);case atStart=>exact⟨0,Nat.zero_le _,rfl,aH,rfl⟩
 case round=>
  obtain⟨k,hk,rfl,hb,Hb⟩:=hrel;by_cases Hk:k < m
  ·obtain⟨⟨a0,a1,a2⟩,ar,hd⟩:=zao (show k < xs.length from by rw[<-HM.out];exact Hk);obtain⟨b,o,rfl,Hg⟩:=HX.2.2 (by rw[<-HM.out];omega);have Hq:=(ArR.keep (hb.same λb hb=>⟨HS b hb,id⟩) Hg).drop k;rw[hd.1]at Hq;obtain⟨⟨Gn,_,_,_,c0,c1,c2⟩,_⟩:=Hq;have JC:b < wr.heap.size:=aM (HS _ Gn) hb.size;have Gj:(k:Int) < (m:Int):=by omega
   have G9:(0:Int)<=(k:Int):=by omega
   simp only at c0 c1 c2;have HC:=aA (HA k a0 a1 a2 ar hd.1 wr hb.out);have Gb:=aA (Hb.trans (zjb hd));have HB:=aA hb.out;clear hd Hg Hb hb Gn;go_wp2_with fail;refine HC.mono ?_;rintro _ w1 ⟨rfl,Gz⟩;have Gw:=aA (HB.trans Gz);clear Gz c0 c1 c2;cases hp:p a0 a1 a2
   ·have HF:=aA (show zdo p xs=false from by rw[Gb.out,hp];rfl);clear hp Gb;go_wp2_with fail;go_ret;exact⟨k,by rw[HF.out];simp,rfl,Gw.out⟩
   ·have HN:=aA (show zdo p xs=zdo p (xs.drop (k+1))from by rw[Gb.out,hp];rfl);clear hp Gb;go_wp2_with fail;go_roundw;case rel=>exact⟨k+1,by omega,by go_num,Gw.out,HN⟩
    case measure=>simp[intOf];omega
  ·have HF:=aA (show zdo p xs=true from by rw[Hb.out,List.drop_eq_nil_of_le (by rw[<-HM.out];omega)];rfl);have HB:=aA hb.out;clear Hb hb;go_wp2_with fail;go_ret;exact⟨-1,by rw[HF.out];simp,rfl,HB.out⟩
theorem conAr (p:ByteArray->Int->Int->Bool)(xs:List Arr)(A:Option Addr)(c:Nat)(g:Nat)(cap:Array Value)(w:World)(S:Nat->Prop)(Z:Prop)(hS:∀b,S b->b < w.heap.size)(hx:SlR (λb o=>ArR w S Z xs b o) xs.length 32 A c)(hent:Enters Tryz.prog g)(Hv:AskAr g cap w S Z (λa0 a1 a2=> !(p a0 a1 a2)) xs):
  Calls Tryz.prog 172 #[.slice A xs.length c,.func (.func g) #[] cap] w (zar (!(zdo p xs)) w):=by
 have HC:=aA (idxAr p xs A c g cap w S Z hS hx hent Hv);clear Hv hent hx hS;go_enter Tryz.func172,Tryz.ntmps172;go_wp2_with fail;refine HC.mono ?_;rintro e w1 ⟨n,hn,rfl,hb⟩;have HN:=aA hn;have HB:=aA hb;clear hn hb;go_wp2_with fail;go_ret;exact⟨by rw[<-HN.out];rfl,HB.out⟩
theorem clAr (p:ByteArray->Int->Int->Bool)(xs:List Arr)(g:Nat)(cap:Array Value)(w:World)(S:Nat->Prop)(Z:Prop)(hS:∀b,S b->b < w.heap.size)(B:Nat)(Hr:Bk w B 214 #[.func (.func g) #[] cap])(hent:Enters Tryz.prog g)(Hv:AskAr g cap w S Z p xs):AskAr 173 #[.pointer (some ⟨B,0,none⟩)] w S Z (λa0 a1 a2=> !(p a0 a1 a2)) xs:=by
 intro i a0 a1 a2 ar hd W hw;have Hc:Fr NoT W (W.alloc (.cells #[.string a0,.int .i64 a1,.int .i64 a2] 61)):=aH.alloc _;have HC:=aA (Hv i a0 a1 a2 ar hd _ (hw.trans Hc));have hb:=Hr.fr0 hw;have c0:=hb.cell 0;have hl:=hb.lt;simp only[List.getElem?_toArray,List.getElem?_cons_zero]at c0;have Ge:=aA Hc;clear Hv hd hw Hc hS Hr hb;unfold Enters at hent;go_enter Tryz.func173,Tryz.ntmps173;go_wp2_with fail;refine HC.mono ?_;rintro _ w1 ⟨rfl,hb⟩;have HB:=aA (Ge.trans hb);clear hb;go_wp2_with fail;go_ret;exact⟨rfl,HB.out⟩
theorem zkJ (p:ByteArray->Int->Int->Bool)(xs:List Arr)(A:Option Addr)(c:Nat)(g:Nat)(cap:Array Value)(w:World)(S:Nat->Prop)(Z:Prop)(hS:∀b,S b->b < w.heap.size)(hx:SlR (λb o=>ArR w S Z xs b o) xs.length 32 A c)(hent:Enters Tryz.prog g)(Hv:AskAr g cap w S Z p xs):
  Calls Tryz.prog 95 #[.slice A xs.length c,.func (.func g) #[] cap] w (zar (zdo p xs) w):=by
 have JI:= @makeF Tryz.prog;have Hc:Fr NoT w (w.alloc (.cells #[.func (.func g) #[] cap] 214)):=aH.alloc _;have Ky:∀b,S b->b < (w.alloc (.cells #[.func (.func g) #[] cap] 214)).heap.size :=λb hb=>aM (hS b hb) Hc.size;have HC:=aA (conAr p xs A c 173 #[.pointer (some ⟨w.heap.size,0,none⟩)] _ S Z Ky (hx.imp λ_ _ hx=>ArR.keep (Hc.same λb hb=>⟨hS b hb,id⟩) hx) (enters_of Tryz.func173 (by kernel_rfl) rfl)
  (clAr p xs g cap _ S Z Ky w.heap.size (Bk.new _ _ _) hent (Hv.next Hc)))
 have Ge:=aA Hc;clear Hv hent hx hS Ky Hc;go_enter Tryz.func95,Tryz.ntmps95;go_wp2_with fail;refine HC.mono ?_;rintro _ w1 ⟨rfl,hb⟩;have HB:=aA (Ge.trans hb);clear hb;go_wp2_with fail;go_ret;exact⟨by simp,HB.out⟩
def zcR (p:ByteArray->(List Va)->Sts->Int->Bool)(xs:List Prc):Bool:=xs.all λx=>p x.nm x.params x.body x.at_
theorem zjc {p:ByteArray->(List Va)->Sts->Int->Bool}{xs:List Prc}{i:Nat}{a0 a1 a2 a3 ar}(hd:xs.drop i=(⟨a0,a1,a2,a3⟩:Prc)::ar/\xs.drop (i+1)=ar):zcR p (xs.drop i)=(p a0 a1 a2 a3&&zcR p (xs.drop (i+1))):=by
 rw[hd.1,hd.2];rfl
def AskPr (g:Nat)(cap:Array Value)(w:World)(S:Nat->Prop)(Z:Prop)(p:ByteArray->(List Va)->Sts->Int->Bool)(xs:List Prc):Prop:=
 ∀(i:Nat)(a0:ByteArray)(a1:List Va)(a2:Sts)(a3:Int)(ar:List Prc),xs.drop i=(⟨a0,a1,a2,a3⟩:Prc)::ar->∀(W:World)(A1:Option Addr)(q1:Nat)(A2:Option Addr)(q2:Nat),Fr NoT w W->SlR (λb o=>VaR W S Z a1 b o) a1.length 24 A1 q1->SlR (λb o=>StR W S Z a2 b o) a2.len 128 A2 q2->Calls Tryz.prog g (#[.agg #[.string a0,.slice A1 a1.length q1,.slice A2 a2.len q2,.int .i64 a3]]++cap) W (zar (p a0 a1 a2 a3) W)
theorem AskPr.next {g:Nat}{cap:Array Value}{w w1:World}{S:Nat->Prop}{Z:Prop}{p:ByteArray->(List Va)->Sts->Int->Bool}{xs:List Prc}(h:AskPr g cap w S Z p xs)(hf:Fr NoT w w1):AskPr g cap w1 S Z p xs:=
 λi a0 a1 a2 a3 ar hd W A1 q1 A2 q2 hw s1 s2=>h i a0 a1 a2 a3 ar hd W A1 q1 A2 q2 (hf.trans hw) s1 s2
theorem idxPr (p:ByteArray->(List Va)->Sts->Int->Bool)(xs:List Prc)(A:Option Addr)(c:Nat)(g:Nat)(cap:Array Value)(w:World)(S:Nat->Prop)(Z:Prop)(hS:∀b,S b->b < w.heap.size)(hx:SlR (λb o=>PrR w S Z xs b o) xs.length 72 A c)(hent:Enters Tryz.prog g)(Hv:AskPr g cap w S Z (λa0 a1 a2 a3=> !(p a0 a1 a2 a3)) xs):
  Calls Tryz.prog 100 #[.slice A xs.length c,.func (.func g) #[] cap] w (IdxP (!(zcR p xs)) w):=by
 have hl:xs.length<=9223372036854775807:=aK hx.1 hx.2.1.1;have HA:=aA Hv;have HX:=aA hx;have HS:=aA hS;obtain⟨m,hm⟩:=aF xs.length;rw[<-hm]at hl ⊢;have HM:=aA hm;clear Hv hx hS hm;unfold Enters at hent;go_enter Tryz.func100,Tryz.ntmps100;go_wp2_with fail;go_loopw [8] (λi wr=>∃k:Nat,k<=m/\i= .int .i64 k/\Hid (Fr NoT w wr)/\Hid (zcR p xs=zcR p (xs.drop k))) (λi _=>m - (intOf i).toNat);case atStart=>exact⟨0,Nat.zero_le _,rfl,aH,rfl⟩
 case round=>
  obtain⟨k,hk,rfl,hb,Hb⟩:=hrel;by_cases Hk:k < m
  ·obtain⟨⟨a0,a1,a2,a3⟩,ar,hd⟩:=zao (show k < xs.length from by rw[<-HM.out];exact Hk);obtain⟨b,o,rfl,Hg⟩:=HX.2.2 (by rw[<-HM.out];omega);have Hq:=(PrR.keep (hb.same λb hb=>⟨HS b hb,id⟩) Hg).drop k;rw[hd.1]at Hq;obtain⟨⟨Gn,_,_,c0,c3⟩,⟨A1,q1,c1,s1⟩,⟨A2,q2,c2,s2⟩,_⟩:=Hq;have JC:b < wr.heap.size:=aM (HS _ Gn) hb.size;have Gj:(k:Int) < (m:Int):=by omega
   have G9:(0:Int)<=(k:Int):=by omega
   simp only at c0 c1 c2 c3 s1 s2;have HC:=aA (HA k a0 a1 a2 a3 ar hd.1 wr A1 q1 A2 q2 hb.out s1 s2);have Gb:=aA (Hb.trans (zjc hd));have HB:=aA hb.out;clear hd Hg Hb hb Gn s1 s2;go_wp2_with fail;refine HC.mono ?_;rintro _ w1 ⟨rfl,Gz⟩;have Gw:=aA (HB.trans Gz);clear Gz c0 c1 c2 c3;cases hp:p a0 a1 a2 a3
   ·have HF:=aA (show zcR p xs=false from by rw[Gb.out,hp];rfl);clear hp Gb;go_wp2_with fail;go_ret;exact⟨k,by rw[HF.out];simp,rfl,Gw.out⟩
   ·have HN:=aA (show zcR p xs=zcR p (xs.drop (k+1))from by rw[Gb.out,hp];rfl);clear hp Gb;go_wp2_with fail;go_roundw;case rel=>exact⟨k+1,by omega,by go_num,Gw.out,HN⟩
    case measure=>simp[intOf];omega
  ·have HF:=aA (show zcR p xs=true from by rw[Hb.out,List.drop_eq_nil_of_le (by rw[<-HM.out];omega)];rfl);have HB:=aA hb.out;clear Hb hb;go_wp2_with fail;go_ret;exact⟨-1,by rw[HF.out];simp,rfl,HB.out⟩
theorem conPr (p:ByteArray->(List Va)->Sts->Int->Bool)(xs:List Prc)(A:Option Addr)(c:Nat)(g:Nat)(cap:Array Value)(w:World)(S:Nat->Prop)(Z:Prop)(hS:∀b,S b->b < w.heap.size)(hx:SlR (λb o=>PrR w S Z xs b o) xs.length 72 A c)(hent:Enters Tryz.prog g)(Hv:AskPr g cap w S Z (λa0 a1 a2 a3=> !(p a0 a1 a2 a3)) xs):
  Calls Tryz.prog 50 #[.slice A xs.length c,.func (.func g) #[] cap] w (zar (!(zcR p xs)) w):=by
 have HC:=aA (idxPr p xs A c g cap w S Z hS hx hent Hv);clear Hv hent hx hS;go_enter Tryz.func50,Tryz.ntmps50;go_wp2_with fail;refine HC.mono ?_;rintro e w1 ⟨n,hn,rfl,hb⟩;have HN:=aA hn;have HB:=aA hb;clear hn hb;go_wp2_with fail;go_ret;exact⟨by rw[<-HN.out];rfl,HB.out⟩
theorem clPr (p:ByteArray->(List Va)->Sts->Int->Bool)(xs:List Prc)(g:Nat)(cap:Array Value)(w:World)(S:Nat->Prop)(Z:Prop)(hS:∀b,S b->b < w.heap.size)(B:Nat)(Hr:Bk w B 144 #[.func (.func g) #[] cap])(hent:Enters Tryz.prog g)(Hv:AskPr g cap w S Z p xs):AskPr 174 #[.pointer (some ⟨B,0,none⟩)] w S Z (λa0 a1 a2 a3=> !(p a0 a1 a2 a3)) xs:=by
 intro i a0 a1 a2 a3 ar hd W A1 q1 A2 q2 hw s1 s2;have Hc:Fr NoT W (W.alloc (.cells #[.string a0,.slice A1 a1.length q1,.slice A2 a2.len q2,.int .i64 a3] 63)):=aH.alloc _;have HC:=aA (Hv i a0 a1 a2 a3 ar hd _ A1 q1 A2 q2 (hw.trans Hc) (s1.imp λ_ _ hx=>VaR.keep (Hc.same λb hb=>⟨aM (hS b hb) hw.size,id⟩) hx) (s2.imp λ_ _ hx=>StR.keep (Hc.same λb hb=>⟨aM (hS b hb) hw.size,id⟩) hx));have hb:=Hr.fr0 hw;have c0:=hb.cell 0;have hl:=hb.lt;simp only[List.getElem?_toArray,List.getElem?_cons_zero]at c0;have Ge:=aA Hc;clear Hv hd hw Hc hS Hr hb s1 s2;unfold Enters at hent;go_enter Tryz.func174,Tryz.ntmps174;go_wp2_with fail;refine HC.mono ?_;rintro _ w1 ⟨rfl,hb⟩;have HB:=aA (Ge.trans hb);clear hb;go_wp2_with fail;go_ret;exact⟨rfl,HB.out⟩
theorem zkK (p:ByteArray->(List Va)->Sts->Int->Bool)(xs:List Prc)(A:Option Addr)(c:Nat)(g:Nat)(cap:Array Value)(w:World)(S:Nat->Prop)(Z:Prop)(hS:∀b,S b->b < w.heap.size)(hx:SlR (λb o=>PrR w S Z xs b o) xs.length 72 A c)(hent:Enters Tryz.prog g)(Hv:AskPr g cap w S Z p xs):
  Calls Tryz.prog 97 #[.slice A xs.length c,.func (.func g) #[] cap] w (zar (zcR p xs) w):=by
 have JI:= @makeF Tryz.prog;have Hc:Fr NoT w (w.alloc (.cells #[.func (.func g) #[] cap] 144)):=aH.alloc _;have Ky:∀b,S b->b < (w.alloc (.cells #[.func (.func g) #[] cap] 144)).heap.size :=λb hb=>aM (hS b hb) Hc.size;have HC:=aA (conPr p xs A c 174 #[.pointer (some ⟨w.heap.size,0,none⟩)] _ S Z Ky (hx.imp λ_ _ hx=>PrR.keep (Hc.same λb hb=>⟨hS b hb,id⟩) hx) (enters_of Tryz.func174 (by kernel_rfl) rfl)
  (clPr p xs g cap _ S Z Ky w.heap.size (Bk.new _ _ _) hent (Hv.next Hc)))
 have Ge:=aA Hc;clear Hv hent hx hS Ky Hc;go_enter Tryz.func97,Tryz.ntmps97;go_wp2_with fail;refine HC.mono ?_;rintro _ w1 ⟨rfl,hb⟩;have HB:=aA (Ge.trans hb);clear hb;go_wp2_with fail;go_ret;exact⟨by simp,HB.out⟩
def zcS (p:Int->ByteArray->Int->Exs->Int->Bool):Exs->Bool
 | .nil =>true
 | .cons a0 a1 a2 a3 a4 ar=>p a0 a1 a2 a3 a4&&zcS p ar
theorem zjd {p:Int->ByteArray->Int->Exs->Int->Bool}{xs:Exs}{i:Nat}{a0 a1 a2 a3 a4 ar}(hd:Exs.drop i xs= .cons a0 a1 a2 a3 a4 ar):zcS p (Exs.drop i xs)=(p a0 a1 a2 a3 a4&&zcS p (Exs.drop (i+1) xs)):=by
 rw[Exs.drop_succ i xs hd,hd];rfl
def AskEx (g:Nat)(cap:Array Value)(w:World)(S:Nat->Prop)(Z:Prop)(p:Int->ByteArray->Int->Exs->Int->Bool)(xs:Exs):Prop:=
 ∀(i:Nat)(a0:Int)(a1:ByteArray)(a2:Int)(a3:Exs)(a4:Int)(ar:Exs),Exs.drop i xs= .cons a0 a1 a2 a3 a4 ar->in8 a0->in64 a2->∀(W:World)(A3:Option Addr)(q3:Nat),Fr NoT w W->SlR (λb o=>ExR W S Z a3 b o) a3.len 64 A3 q3->Calls Tryz.prog g (#[.agg #[.int .u8 a0,.string a1,.int .i64 a2,.slice A3 a3.len q3,.int .i64 a4]]++cap) W (zar (p a0 a1 a2 a3 a4) W)
theorem AskEx.next {g:Nat}{cap:Array Value}{w w1:World}{S:Nat->Prop}{Z:Prop}{p:Int->ByteArray->Int->Exs->Int->Bool}{xs:Exs}(h:AskEx g cap w S Z p xs)(hf:Fr NoT w w1):AskEx g cap w1 S Z p xs:=
 λi a0 a1 a2 a3 a4 ar hd r0 r1 W A3 q3 hw s3=>h i a0 a1 a2 a3 a4 ar hd r0 r1 W A3 q3 (hf.trans hw) s3
theorem idxEx (p:Int->ByteArray->Int->Exs->Int->Bool)(xs:Exs)(A:Option Addr)(c:Nat)(g:Nat)(cap:Array Value)(w:World)(S:Nat->Prop)(Z:Prop)(hS:∀b,S b->b < w.heap.size)(hx:SlR (λb o=>ExR w S Z xs b o) xs.len 64 A c)(hent:Enters Tryz.prog g)(Hv:AskEx g cap w S Z (λa0 a1 a2 a3 a4=> !(p a0 a1 a2 a3 a4)) xs):
  Calls Tryz.prog 215 #[.slice A xs.len c,.func (.func g) #[] cap] w (IdxP (!(zcS p xs)) w):=by
 have hl:xs.len<=9223372036854775807:=aK hx.1 hx.2.1.1;have HA:=aA Hv;have HX:=aA hx;have HS:=aA hS;obtain⟨m,hm⟩:=aF xs.len;rw[<-hm]at hl ⊢;have HM:=aA hm;clear Hv hx hS hm;unfold Enters at hent;go_enter Tryz.func215,Tryz.ntmps215;go_wp2_with fail;go_loopw [8] (λi wr=>∃k:Nat,k<=m/\i= .int .i64 k/\Hid (Fr NoT w wr)/\Hid (zcS p xs=zcS p (Exs.drop k xs))) (λi _=>m - (intOf i).toNat);case atStart=>exact⟨0,Nat.zero_le _,rfl,aH,rfl⟩
 case round=>
  obtain⟨k,hk,rfl,hb,Hb⟩:=hrel;by_cases Hk:k < m
  ·obtain⟨a0,a1,a2,a3,a4,ar,hd⟩:=Exs.drop_cons (show k < xs.len from by rw[<-HM.out];exact Hk);obtain⟨b,o,rfl,Hg⟩:=HX.2.2 (by rw[<-HM.out];omega);have Hq:=(ExR.keep (hb.same λb hb=>⟨HS b hb,id⟩) Hg).drop k;rw[hd]at Hq;obtain⟨⟨Gn,_,r0,r1,_,c0,c1,c2,c4⟩,⟨A3,q3,c3,s3⟩,_⟩:=Hq;have JC:b < wr.heap.size:=aM (HS _ Gn) hb.size;have Gj:(k:Int) < (m:Int):=by omega
   have G9:(0:Int)<=(k:Int):=by omega
   have HC:=aA (HA k a0 a1 a2 a3 a4 ar hd r0 r1 wr A3 q3 hb.out s3);have Gb:=aA (Hb.trans (zjd hd));have HB:=aA hb.out;clear hd Hg Hb hb Gn s3 r0 r1;go_wp2_with fail;refine HC.mono ?_;rintro _ w1 ⟨rfl,Gz⟩;have Gw:=aA (HB.trans Gz);clear Gz c0 c1 c2 c3 c4;cases hp:p a0 a1 a2 a3 a4
   ·have HF:=aA (show zcS p xs=false from by rw[Gb.out,hp];rfl);clear hp Gb;go_wp2_with fail;go_ret;exact⟨k,by rw[HF.out];simp,rfl,Gw.out⟩
   ·have HN:=aA (show zcS p xs=zcS p (Exs.drop (k+1) xs)from by rw[Gb.out,hp];rfl);clear hp Gb;go_wp2_with fail;go_roundw;case rel=>exact⟨k+1,by omega,by go_num,Gw.out,HN⟩
    case measure=>simp[intOf];omega
  ·have HF:=aA (show zcS p xs=true from by rw[Hb.out,Exs.drop_nil (by rw[<-HM.out];omega)];rfl);have HB:=aA hb.out;clear Hb hb;go_wp2_with fail;go_ret;exact⟨-1,by rw[HF.out];simp,rfl,HB.out⟩
theorem conEx (p:Int->ByteArray->Int->Exs->Int->Bool)(xs:Exs)(A:Option Addr)(c:Nat)(g:Nat)(cap:Array Value)(w:World)(S:Nat->Prop)(Z:Prop)(hS:∀b,S b->b < w.heap.size)(hx:SlR (λb o=>ExR w S Z xs b o) xs.len 64 A c)(hent:Enters Tryz.prog g)(Hv:AskEx g cap w S Z (λa0 a1 a2 a3 a4=> !(p a0 a1 a2 a3 a4)) xs):
  Calls Tryz.prog 151 #[.slice A xs.len c,.func (.func g) #[] cap] w (zar (!(zcS p xs)) w):=by
 have HC:=aA (idxEx p xs A c g cap w S Z hS hx hent Hv);clear Hv hent hx hS;go_enter Tryz.func151,Tryz.ntmps151;go_wp2_with fail;refine HC.mono ?_;rintro e w1 ⟨n,hn,rfl,hb⟩;have HN:=aA hn;have HB:=aA hb;clear hn hb;go_wp2_with fail;go_ret;exact⟨by rw[<-HN.out];rfl,HB.out⟩
theorem clEx (p:Int->ByteArray->Int->Exs->Int->Bool)(xs:Exs)(g:Nat)(cap:Array Value)(w:World)(S:Nat->Prop)(Z:Prop)(hS:∀b,S b->b < w.heap.size)(B:Nat)(Hr:Bk w B 259 #[.func (.func g) #[] cap])(hent:Enters Tryz.prog g)(Hv:AskEx g cap w S Z p xs):AskEx 221 #[.pointer (some ⟨B,0,none⟩)] w S Z (λa0 a1 a2 a3 a4=> !(p a0 a1 a2 a3 a4)) xs:=by
 intro i a0 a1 a2 a3 a4 ar hd r0 r1 W A3 q3 hw s3;have Hc:Fr NoT W (W.alloc (.cells #[.int .u8 a0,.string a1,.int .i64 a2,.slice A3 a3.len q3,.int .i64 a4] 175)):=aH.alloc _;have HC:=aA (Hv i a0 a1 a2 a3 a4 ar hd r0 r1 _ A3 q3 (hw.trans Hc) (s3.imp λ_ _ hx=>ExR.keep (Hc.same λb hb=>⟨aM (hS b hb) hw.size,id⟩) hx));have hb:=Hr.fr0 hw;have c0:=hb.cell 0;have hl:=hb.lt;simp only[List.getElem?_toArray,List.getElem?_cons_zero]at c0;have Ge:=aA Hc;clear Hv hd hw Hc hS Hr hb s3 r0 r1;unfold Enters at hent;go_enter Tryz.func221,Tryz.ntmps221;go_wp2_with fail;refine HC.mono ?_;rintro _ w1 ⟨rfl,hb⟩;have HB:=aA (Ge.trans hb);clear hb;go_wp2_with fail;go_ret;exact⟨rfl,HB.out⟩
theorem zgN (p:Int->ByteArray->Int->Exs->Int->Bool)(xs:Exs)(A:Option Addr)(c:Nat)(g:Nat)(cap:Array Value)(w:World)(S:Nat->Prop)(Z:Prop)(hS:∀b,S b->b < w.heap.size)(hx:SlR (λb o=>ExR w S Z xs b o) xs.len 64 A c)(hent:Enters Tryz.prog g)(Hv:AskEx g cap w S Z p xs):
  Calls Tryz.prog 168 #[.slice A xs.len c,.func (.func g) #[] cap] w (zar (zcS p xs) w):=by
 have JI:= @makeF Tryz.prog;have Hc:Fr NoT w (w.alloc (.cells #[.func (.func g) #[] cap] 259)):=aH.alloc _;have Ky:∀b,S b->b < (w.alloc (.cells #[.func (.func g) #[] cap] 259)).heap.size :=λb hb=>aM (hS b hb) Hc.size;have HC:=aA (conEx p xs A c 221 #[.pointer (some ⟨w.heap.size,0,none⟩)] _ S Z Ky (hx.imp λ_ _ hx=>ExR.keep (Hc.same λb hb=>⟨hS b hb,id⟩) hx) (enters_of Tryz.func221 (by kernel_rfl) rfl)
  (clEx p xs g cap _ S Z Ky w.heap.size (Bk.new _ _ _) hent (Hv.next Hc)))
 have Ge:=aA Hc;clear Hv hent hx hS Ky Hc;go_enter Tryz.func168,Tryz.ntmps168;go_wp2_with fail;refine HC.mono ?_;rintro _ w1 ⟨rfl,hb⟩;have HB:=aA (Ge.trans hb);clear hb;go_wp2_with fail;go_ret;exact⟨by simp,HB.out⟩
def zcT (p:Int->Exs->Cds->Int->Bool):Cds->Bool
 | .nil =>true
 | .cons a0 a1 a2 a3 ar=>p a0 a1 a2 a3&&zcT p ar
theorem zje {p:Int->Exs->Cds->Int->Bool}{xs:Cds}{i:Nat}{a0 a1 a2 a3 ar}(hd:Cds.drop i xs= .cons a0 a1 a2 a3 ar):zcT p (Cds.drop i xs)=(p a0 a1 a2 a3&&zcT p (Cds.drop (i+1) xs)):=by
 rw[Cds.drop_succ i xs hd,hd];rfl
def AskCd (g:Nat)(cap:Array Value)(w:World)(S:Nat->Prop)(Z:Prop)(p:Int->Exs->Cds->Int->Bool)(xs:Cds):Prop:=
 ∀(i:Nat)(a0:Int)(a1:Exs)(a2:Cds)(a3:Int)(ar:Cds),Cds.drop i xs= .cons a0 a1 a2 a3 ar->in8 a0->∀(W:World)(A1:Option Addr)(q1:Nat)(A2:Option Addr)(q2:Nat),Fr NoT w W->SlR (λb o=>ExR W S Z a1 b o) a1.len 64 A1 q1->SlR (λb o=>CdR W S Z a2 b o) a2.len 64 A2 q2->Calls Tryz.prog g (#[.agg #[.int .u8 a0,.slice A1 a1.len q1,.slice A2 a2.len q2,.int .i64 a3]]++cap) W (zar (p a0 a1 a2 a3) W)
theorem AskCd.next {g:Nat}{cap:Array Value}{w w1:World}{S:Nat->Prop}{Z:Prop}{p:Int->Exs->Cds->Int->Bool}{xs:Cds}(h:AskCd g cap w S Z p xs)(hf:Fr NoT w w1):AskCd g cap w1 S Z p xs:=
 λi a0 a1 a2 a3 ar hd r0 W A1 q1 A2 q2 hw s1 s2=>h i a0 a1 a2 a3 ar hd r0 W A1 q1 A2 q2 (hf.trans hw) s1 s2
theorem idxCd (p:Int->Exs->Cds->Int->Bool)(xs:Cds)(A:Option Addr)(c:Nat)(g:Nat)(cap:Array Value)(w:World)(S:Nat->Prop)(Z:Prop)(hS:∀b,S b->b < w.heap.size)(hx:SlR (λb o=>CdR w S Z xs b o) xs.len 64 A c)(hent:Enters Tryz.prog g)(Hv:AskCd g cap w S Z (λa0 a1 a2 a3=> !(p a0 a1 a2 a3)) xs):
  Calls Tryz.prog 264 #[.slice A xs.len c,.func (.func g) #[] cap] w (IdxP (!(zcT p xs)) w):=by
 have hl:xs.len<=9223372036854775807:=aK hx.1 hx.2.1.1;have HA:=aA Hv;have HX:=aA hx;have HS:=aA hS;obtain⟨m,hm⟩:=aF xs.len;rw[<-hm]at hl ⊢;have HM:=aA hm;clear Hv hx hS hm;unfold Enters at hent;go_enter Tryz.func264,Tryz.ntmps264;go_wp2_with fail;go_loopw [8] (λi wr=>∃k:Nat,k<=m/\i= .int .i64 k/\Hid (Fr NoT w wr)/\Hid (zcT p xs=zcT p (Cds.drop k xs))) (λi _=>m - (intOf i).toNat);case atStart=>exact⟨0,Nat.zero_le _,rfl,aH,rfl⟩
 case round=>
  obtain⟨k,hk,rfl,hb,Hb⟩:=hrel;by_cases Hk:k < m
  ·obtain⟨a0,a1,a2,a3,ar,hd⟩:=Cds.drop_cons (show k < xs.len from by rw[<-HM.out];exact Hk);obtain⟨b,o,rfl,Hg⟩:=HX.2.2 (by rw[<-HM.out];omega);have Hq:=(CdR.keep (hb.same λb hb=>⟨HS b hb,id⟩) Hg).drop k;rw[hd]at Hq;obtain⟨⟨Gn,_,r0,_,c0,c3⟩,⟨A1,q1,c1,s1⟩,⟨A2,q2,c2,s2⟩,_⟩:=Hq;have JC:b < wr.heap.size:=aM (HS _ Gn) hb.size;have Gj:(k:Int) < (m:Int):=by omega
   have G9:(0:Int)<=(k:Int):=by omega
   have HC:=aA (HA k a0 a1 a2 a3 ar hd r0 wr A1 q1 A2 q2 hb.out s1 s2);have Gb:=aA (Hb.trans (zje hd));have HB:=aA hb.out;clear hd Hg Hb hb Gn s1 s2 r0;go_wp2_with fail;refine HC.mono ?_;rintro _ w1 ⟨rfl,Gz⟩;have Gw:=aA (HB.trans Gz);clear Gz c0 c1 c2 c3;cases hp:p a0 a1 a2 a3
   ·have HF:=aA (show zcT p xs=false from by rw[Gb.out,hp];rfl);clear hp Gb;go_wp2_with fail;go_ret;exact⟨k,by rw[HF.out];simp,rfl,Gw.out⟩
   ·have HN:=aA (show zcT p xs=zcT p (Cds.drop (k+1) xs)from by rw[Gb.out,hp];rfl);clear hp Gb;go_wp2_with fail;go_roundw;case rel=>exact⟨k+1,by omega,by go_num,Gw.out,HN⟩
    case measure=>simp[intOf];omega
  ·have HF:=aA (show zcT p xs=true from by rw[Hb.out,Cds.drop_nil (by rw[<-HM.out];omega)];rfl);have HB:=aA hb.out;clear Hb hb;go_wp2_with fail;go_ret;exact⟨-1,by rw[HF.out];simp,rfl,HB.out⟩
theorem conCd (p:Int->Exs->Cds->Int->Bool)(xs:Cds)(A:Option Addr)(c:Nat)(g:Nat)(cap:Array Value)(w:World)(S:Nat->Prop)(Z:Prop)(hS:∀b,S b->b < w.heap.size)(hx:SlR (λb o=>CdR w S Z xs b o) xs.len 64 A c)(hent:Enters Tryz.prog g)(Hv:AskCd g cap w S Z (λa0 a1 a2 a3=> !(p a0 a1 a2 a3)) xs):
  Calls Tryz.prog 223 #[.slice A xs.len c,.func (.func g) #[] cap] w (zar (!(zcT p xs)) w):=by
 have HC:=aA (idxCd p xs A c g cap w S Z hS hx hent Hv);clear Hv hent hx hS;go_enter Tryz.func223,Tryz.ntmps223;go_wp2_with fail;refine HC.mono ?_;rintro e w1 ⟨n,hn,rfl,hb⟩;have HN:=aA hn;have HB:=aA hb;clear hn hb;go_wp2_with fail;go_ret;exact⟨by rw[<-HN.out];rfl,HB.out⟩
theorem clCd (p:Int->Exs->Cds->Int->Bool)(xs:Cds)(g:Nat)(cap:Array Value)(w:World)(S:Nat->Prop)(Z:Prop)(hS:∀b,S b->b < w.heap.size)(B:Nat)(Hr:Bk w B 275 #[.func (.func g) #[] cap])(hent:Enters Tryz.prog g)(Hv:AskCd g cap w S Z p xs):AskCd 224 #[.pointer (some ⟨B,0,none⟩)] w S Z (λa0 a1 a2 a3=> !(p a0 a1 a2 a3)) xs:=by
 intro i a0 a1 a2 a3 ar hd r0 W A1 q1 A2 q2 hw s1 s2;have Hc:Fr NoT W (W.alloc (.cells #[.int .u8 a0,.slice A1 a1.len q1,.slice A2 a2.len q2,.int .i64 a3] 179)):=aH.alloc _;have HC:=aA (Hv i a0 a1 a2 a3 ar hd r0 _ A1 q1 A2 q2 (hw.trans Hc) (s1.imp λ_ _ hx=>ExR.keep (Hc.same λb hb=>⟨aM (hS b hb) hw.size,id⟩) hx) (s2.imp λ_ _ hx=>CdR.keep (Hc.same λb hb=>⟨aM (hS b hb) hw.size,id⟩) hx));have hb:=Hr.fr0 hw;have c0:=hb.cell 0;have hl:=hb.lt;simp only[List.getElem?_toArray,List.getElem?_cons_zero]at c0;have Ge:=aA Hc;clear Hv hd hw Hc hS Hr hb s1 s2 r0;unfold Enters at hent;go_enter Tryz.func224,Tryz.ntmps224;go_wp2_with fail;refine HC.mono ?_;rintro _ w1 ⟨rfl,hb⟩;have HB:=aA (Ge.trans hb);clear hb;go_wp2_with fail;go_ret;exact⟨rfl,HB.out⟩
theorem zgO (p:Int->Exs->Cds->Int->Bool)(xs:Cds)(A:Option Addr)(c:Nat)(g:Nat)(cap:Array Value)(w:World)(S:Nat->Prop)(Z:Prop)(hS:∀b,S b->b < w.heap.size)(hx:SlR (λb o=>CdR w S Z xs b o) xs.len 64 A c)(hent:Enters Tryz.prog g)(Hv:AskCd g cap w S Z p xs):
  Calls Tryz.prog 170 #[.slice A xs.len c,.func (.func g) #[] cap] w (zar (zcT p xs) w):=by
 have JI:= @makeF Tryz.prog;have Hc:Fr NoT w (w.alloc (.cells #[.func (.func g) #[] cap] 275)):=aH.alloc _;have Ky:∀b,S b->b < (w.alloc (.cells #[.func (.func g) #[] cap] 275)).heap.size :=λb hb=>aM (hS b hb) Hc.size;have HC:=aA (conCd p xs A c 224 #[.pointer (some ⟨w.heap.size,0,none⟩)] _ S Z Ky (hx.imp λ_ _ hx=>CdR.keep (Hc.same λb hb=>⟨hS b hb,id⟩) hx) (enters_of Tryz.func224 (by kernel_rfl) rfl)
  (clCd p xs g cap _ S Z Ky w.heap.size (Bk.new _ _ _) hent (Hv.next Hc)))
 have Ge:=aA Hc;clear Hv hent hx hS Ky Hc;go_enter Tryz.func170,Tryz.ntmps170;go_wp2_with fail;refine HC.mono ?_;rintro _ w1 ⟨rfl,hb⟩;have HB:=aA (Ge.trans hb);clear hb;go_wp2_with fail;go_ret;exact⟨by simp,HB.out⟩
def zcU (p:Int->ByteArray->Exs->Cds->Sts->Sts->Int->Bool):Sts->Bool
 | .nil =>true
 | .cons a0 a1 a2 a3 a4 a5 a6 ar=>p a0 a1 a2 a3 a4 a5 a6&&zcU p ar
theorem zjf {p:Int->ByteArray->Exs->Cds->Sts->Sts->Int->Bool}{xs:Sts}{i:Nat}{a0 a1 a2 a3 a4 a5 a6 ar}(hd:Sts.drop i xs= .cons a0 a1 a2 a3 a4 a5 a6 ar):zcU p (Sts.drop i xs)=(p a0 a1 a2 a3 a4 a5 a6&&zcU p (Sts.drop (i+1) xs)):=by
 rw[Sts.drop_succ i xs hd,hd];rfl
def AskSt (g:Nat)(cap:Array Value)(w:World)(S:Nat->Prop)(Z:Prop)(p:Int->ByteArray->Exs->Cds->Sts->Sts->Int->Bool)(xs:Sts):Prop:=
 ∀(i:Nat)(a0:Int)(a1:ByteArray)(a2:Exs)(a3:Cds)(a4:Sts)(a5:Sts)(a6:Int)(ar:Sts),Sts.drop i xs= .cons a0 a1 a2 a3 a4 a5 a6 ar->in8 a0->∀(W:World)(A2:Option Addr)(q2:Nat)(A3:Option Addr)(q3:Nat)(A4:Option Addr)(q4:Nat)(A5:Option Addr)(q5:Nat),Fr NoT w W->SlR (λb o=>ExR W S Z a2 b o) a2.len 64 A2 q2->SlR (λb o=>CdR W S Z a3 b o) a3.len 64 A3 q3->SlR (λb o=>StR W S Z a4 b o) a4.len 128 A4 q4->SlR (λb o=>StR W S Z a5 b o) a5.len 128 A5 q5->Calls Tryz.prog g (#[.agg #[.int .u8 a0,.string a1,.slice A2 a2.len q2,.slice A3 a3.len q3,.slice A4 a4.len q4,.slice A5 a5.len q5,.int .i64 a6]]++cap) W (zar (p a0 a1 a2 a3 a4 a5 a6) W)
theorem AskSt.next {g:Nat}{cap:Array Value}{w w1:World}{S:Nat->Prop}{Z:Prop}{p:Int->ByteArray->Exs->Cds->Sts->Sts->Int->Bool}{xs:Sts}(h:AskSt g cap w S Z p xs)(hf:Fr NoT w w1):AskSt g cap w1 S Z p xs:=
 λi a0 a1 a2 a3 a4 a5 a6 ar hd r0 W A2 q2 A3 q3 A4 q4 A5 q5 hw s2 s3 s4 s5=>h i a0 a1 a2 a3 a4 a5 a6 ar hd r0 W A2 q2 A3 q3 A4 q4 A5 q5 (hf.trans hw) s2 s3 s4 s5
theorem idxSt (p:Int->ByteArray->Exs->Cds->Sts->Sts->Int->Bool)(xs:Sts)(A:Option Addr)(c:Nat)(g:Nat)(cap:Array Value)(w:World)(S:Nat->Prop)(Z:Prop)(hS:∀b,S b->b < w.heap.size)(hx:SlR (λb o=>StR w S Z xs b o) xs.len 128 A c)(hent:Enters Tryz.prog g)(Hv:AskSt g cap w S Z (λa0 a1 a2 a3 a4 a5 a6=> !(p a0 a1 a2 a3 a4 a5 a6)) xs):
  Calls Tryz.prog 220 #[.slice A xs.len c,.func (.func g) #[] cap] w (IdxP (!(zcU p xs)) w):=by
 have hl:xs.len<=9223372036854775807:=aK hx.1 hx.2.1.1;have HA:=aA Hv;have HX:=aA hx;have HS:=aA hS;obtain⟨m,hm⟩:=aF xs.len;rw[<-hm]at hl ⊢;have HM:=aA hm;clear Hv hx hS hm;unfold Enters at hent;go_enter Tryz.func220,Tryz.ntmps220;go_wp2_with fail;go_loopw [8] (λi wr=>∃k:Nat,k<=m/\i= .int .i64 k/\Hid (Fr NoT w wr)/\Hid (zcU p xs=zcU p (Sts.drop k xs))) (λi _=>m - (intOf i).toNat);case atStart=>exact⟨0,Nat.zero_le _,rfl,aH,rfl⟩
 case round=>
  obtain⟨k,hk,rfl,hb,Hb⟩:=hrel;by_cases Hk:k < m
  ·obtain⟨a0,a1,a2,a3,a4,a5,a6,ar,hd⟩:=Sts.drop_cons (show k < xs.len from by rw[<-HM.out];exact Hk);obtain⟨b,o,rfl,Hg⟩:=HX.2.2 (by rw[<-HM.out];omega);have Hq:=(StR.keep (hb.same λb hb=>⟨HS b hb,id⟩) Hg).drop k;rw[hd]at Hq;obtain⟨⟨Gn,_,r0,_,c0,c1,c6⟩,⟨A2,q2,c2,s2⟩,⟨A3,q3,c3,s3⟩,⟨A4,q4,c4,s4⟩,⟨A5,q5,c5,s5⟩,_⟩:=Hq;have JC:b < wr.heap.size:=aM (HS _ Gn) hb.size;have Gj:(k:Int) < (m:Int):=by omega
   have G9:(0:Int)<=(k:Int):=by omega
   have HC:=aA (HA k a0 a1 a2 a3 a4 a5 a6 ar hd r0 wr A2 q2 A3 q3 A4 q4 A5 q5 hb.out s2 s3 s4 s5);have Gb:=aA (Hb.trans (zjf hd));have HB:=aA hb.out;clear hd Hg Hb hb Gn s2 s3 s4 s5 r0;go_wp2_with fail;refine HC.mono ?_;rintro _ w1 ⟨rfl,Gz⟩;have Gw:=aA (HB.trans Gz);clear Gz c0 c1 c2 c3 c4 c5 c6;cases hp:p a0 a1 a2 a3 a4 a5 a6
   ·have HF:=aA (show zcU p xs=false from by rw[Gb.out,hp];rfl);clear hp Gb;go_wp2_with fail;go_ret;exact⟨k,by rw[HF.out];simp,rfl,Gw.out⟩
   ·have HN:=aA (show zcU p xs=zcU p (Sts.drop (k+1) xs)from by rw[Gb.out,hp];rfl);clear hp Gb;go_wp2_with fail;go_roundw;case rel=>exact⟨k+1,by omega,by go_num,Gw.out,HN⟩
    case measure=>simp[intOf];omega
  ·have HF:=aA (show zcU p xs=true from by rw[Hb.out,Sts.drop_nil (by rw[<-HM.out];omega)];rfl);have HB:=aA hb.out;clear Hb hb;go_wp2_with fail;go_ret;exact⟨-1,by rw[HF.out];simp,rfl,HB.out⟩
theorem conSt (p:Int->ByteArray->Exs->Cds->Sts->Sts->Int->Bool)(xs:Sts)(A:Option Addr)(c:Nat)(g:Nat)(cap:Array Value)(w:World)(S:Nat->Prop)(Z:Prop)(hS:∀b,S b->b < w.heap.size)(hx:SlR (λb o=>StR w S Z xs b o) xs.len 128 A c)(hent:Enters Tryz.prog g)(Hv:AskSt g cap w S Z (λa0 a1 a2 a3 a4 a5 a6=> !(p a0 a1 a2 a3 a4 a5 a6)) xs):
  Calls Tryz.prog 164 #[.slice A xs.len c,.func (.func g) #[] cap] w (zar (!(zcU p xs)) w):=by
 have HC:=aA (idxSt p xs A c g cap w S Z hS hx hent Hv);clear Hv hent hx hS;go_enter Tryz.func164,Tryz.ntmps164;go_wp2_with fail;refine HC.mono ?_;rintro e w1 ⟨n,hn,rfl,hb⟩;have HN:=aA hn;have HB:=aA hb;clear hn hb;go_wp2_with fail;go_ret;exact⟨by rw[<-HN.out];rfl,HB.out⟩
theorem clSt (p:Int->ByteArray->Exs->Cds->Sts->Sts->Int->Bool)(xs:Sts)(g:Nat)(cap:Array Value)(w:World)(S:Nat->Prop)(Z:Prop)(hS:∀b,S b->b < w.heap.size)(B:Nat)(Hr:Bk w B 212 #[.func (.func g) #[] cap])(hent:Enters Tryz.prog g)(Hv:AskSt g cap w S Z p xs):AskSt 165 #[.pointer (some ⟨B,0,none⟩)] w S Z (λa0 a1 a2 a3 a4 a5 a6=> !(p a0 a1 a2 a3 a4 a5 a6)) xs:=by
 intro i a0 a1 a2 a3 a4 a5 a6 ar hd r0 W A2 q2 A3 q3 A4 q4 A5 q5 hw s2 s3 s4 s5;have Hc:Fr NoT W (W.alloc (.cells #[.int .u8 a0,.string a1,.slice A2 a2.len q2,.slice A3 a3.len q3,.slice A4 a4.len q4,.slice A5 a5.len q5,.int .i64 a6] 51)):=aH.alloc _;have HC:=aA (Hv i a0 a1 a2 a3 a4 a5 a6 ar hd r0 _ A2 q2 A3 q3 A4 q4 A5 q5 (hw.trans Hc) (s2.imp λ_ _ hx=>ExR.keep (Hc.same λb hb=>⟨aM (hS b hb) hw.size,id⟩) hx) (s3.imp λ_ _ hx=>CdR.keep (Hc.same λb hb=>⟨aM (hS b hb) hw.size,id⟩) hx) (s4.imp λ_ _ hx=>StR.keep (Hc.same λb hb=>⟨aM (hS b hb) hw.size,id⟩) hx) (s5.imp λ_ _ hx=>StR.keep (Hc.same λb hb=>⟨aM (hS b hb) hw.size,id⟩) hx));have hb:=Hr.fr0 hw;have c0:=hb.cell 0;have hl:=hb.lt;simp only[List.getElem?_toArray,List.getElem?_cons_zero]at c0;have Ge:=aA Hc;clear Hv hd hw Hc hS Hr hb s2 s3 s4 s5 r0;unfold Enters at hent;go_enter Tryz.func165,Tryz.ntmps165;go_wp2_with fail;refine HC.mono ?_;rintro _ w1 ⟨rfl,hb⟩;have HB:=aA (Ge.trans hb);clear hb;go_wp2_with fail;go_ret;exact⟨rfl,HB.out⟩
theorem zeq (p:Int->ByteArray->Exs->Cds->Sts->Sts->Int->Bool)(xs:Sts)(A:Option Addr)(c:Nat)(g:Nat)(cap:Array Value)(w:World)(S:Nat->Prop)(Z:Prop)(hS:∀b,S b->b < w.heap.size)(hx:SlR (λb o=>StR w S Z xs b o) xs.len 128 A c)(hent:Enters Tryz.prog g)(Hv:AskSt g cap w S Z p xs):
  Calls Tryz.prog 93 #[.slice A xs.len c,.func (.func g) #[] cap] w (zar (zcU p xs) w):=by
 have JI:= @makeF Tryz.prog;have Hc:Fr NoT w (w.alloc (.cells #[.func (.func g) #[] cap] 212)):=aH.alloc _;have Ky:∀b,S b->b < (w.alloc (.cells #[.func (.func g) #[] cap] 212)).heap.size :=λb hb=>aM (hS b hb) Hc.size;have HC:=aA (conSt p xs A c 165 #[.pointer (some ⟨w.heap.size,0,none⟩)] _ S Z Ky (hx.imp λ_ _ hx=>StR.keep (Hc.same λb hb=>⟨hS b hb,id⟩) hx) (enters_of Tryz.func165 (by kernel_rfl) rfl)
  (clSt p xs g cap _ S Z Ky w.heap.size (Bk.new _ _ _) hent (Hv.next Hc)))
 have Ge:=aA Hc;clear Hv hent hx hS Ky Hc;go_enter Tryz.func93,Tryz.ntmps93;go_wp2_with fail;refine HC.mono ?_;rintro _ w1 ⟨rfl,hb⟩;have HB:=aA (Ge.trans hb);clear hb;go_wp2_with fail;go_ret;exact⟨by simp,HB.out⟩
def shp (a o c:Int)(n:Bool):List Value:= [.int .i64 a,.int .i64 o,.int .i64 c,.bool n]
def zaK:List (Int×Int×Int×Bool):= [(0,0,0,false),(0,0,0,false),(1,0,0,true),(2,0,0,true),(0,0,0,true),(0,0,1,false),(0,0,1,false),(0,0,1,false),(0,0,1,false),(-1,0,0,true)]
def zcA:List (Int×Int×Int×Bool):= [(0,0,0,false),(0,0,0,false),(0,0,0,true),(1,0,0,true),(1,0,0,false),(2,0,0,false),(2,0,0,false),(2,0,0,false),(2,0,0,false),(2,0,0,false),(2,0,0,false),(2,0,0,false)]
def zcB:List (Int×Int×Int×Bool):= [(0,0,0,false),(0,0,0,false),(0,0,0,false),(2,0,0,false),(2,0,0,false),(2,0,0,false),(2,0,0,false),(2,0,0,false),(2,0,0,false),(0,1,0,false),(0,2,0,false),(0,2,0,false)]
def tabV (l:List (Int×Int×Int×Bool)):Value:= .agg (l.flatMap λx=>shp x.1 x.2.1 x.2.2.1 x.2.2.2).toArray
theorem zbc (w:World):Calls Tryz.prog 166 #[] w λe w'=>e= .returned (tabV zaK)/\Below w.heap.size w w':=by
 go_enter Tryz.func166,Tryz.ntmps166;go_wp2_with (first|(refine wpList_build rfl 271 _ rfl (by kernel_rfl) ?_)|(refine wpList_store_row rfl 271 _ _ rfl w.heap.size _ rfl rfl 271 _ (heap_alloc_new _ _) (by kernel_rfl) (by kernel_rfl) (by kernel_rfl) ?_));exact bodyPost_ret (results_cell_row (p:=0) (ty:=271) rfl _ _ w.heap.size 271 _ (0,0) _ rfl (setRow_heap _ _ _ _ _ _ (heap_alloc_new _ _)) Tryz.underlying271 rfl (by kernel_rfl)) rfl ⟨by kernel_rfl,zbx ((Below.refl _ _).alloc (aL _) _) (aL _) _⟩
theorem zgP (w:World):Calls Tryz.prog 222 #[] w λe w'=>e= .returned (tabV zcA)/\Below w.heap.size w w':=by
 go_enter Tryz.func222,Tryz.ntmps222;go_wp2_with (first|(refine wpList_build rfl 312 _ rfl (by kernel_rfl) ?_)|(refine wpList_store_row rfl 312 _ _ rfl w.heap.size _ rfl rfl 312 _ ((Below.heap_alloc _ _ _ (by simp)).trans (heap_alloc_new _ _)) (by kernel_rfl) (by kernel_rfl) (by kernel_rfl) ?_));exact bodyPost_ret (results_cell_row (p:=0) (ty:=312) rfl _ _ w.heap.size 312 _ (0,0) _ rfl (setRow_heap _ _ _ _ _ _ ((Below.heap_alloc _ _ _ (by simp)).trans (heap_alloc_new _ _))) Tryz.underlying312 rfl (by kernel_rfl)) rfl ⟨by kernel_rfl,zbx (((Below.refl _ _).alloc (aL _) _).alloc (by simp) _) (aL _) _⟩
theorem zgQ (w:World):Calls Tryz.prog 225 #[] w λe w'=>e= .returned (tabV zcB)/\Below w.heap.size w w':=by
 go_enter Tryz.func225,Tryz.ntmps225;go_wp2_with (first|(refine wpList_build rfl 312 _ rfl (by kernel_rfl) ?_)|(refine wpList_store_row rfl 312 _ _ rfl w.heap.size _ rfl rfl 312 _ ((Below.heap_alloc _ _ _ (by simp)).trans (heap_alloc_new _ _)) (by kernel_rfl) (by kernel_rfl) (by kernel_rfl) ?_));exact bodyPost_ret (results_cell_row (p:=0) (ty:=312) rfl _ _ w.heap.size 312 _ (0,0) _ rfl (setRow_heap _ _ _ _ _ _ ((Below.heap_alloc _ _ _ (by simp)).trans (heap_alloc_new _ _))) Tryz.underlying312 rfl (by kernel_rfl)) rfl ⟨by kernel_rfl,zbx (((Below.refl _ _).alloc (aL _) _).alloc (by simp) _) (aL _) _⟩
theorem zm1 (k:Int)(h0:1<=k)(h1:k<=9):∃a o c b,zaK[k.toNat]?=some (a,o,c,b)/\∀w,(Instr.index 271 (tabV zaK) (.int .u8 k)).run Tryz.prog w= .ok (.agg #[.int .i64 a,.int .i64 o,.int .i64 c,.bool b]) w:=by
 have hk:k=1\/k=2\/k=3\/k=4\/k=5\/k=6\/k=7\/k=8\/k=9:=by omega
 rcases hk with rfl|rfl|rfl|rfl|rfl|rfl|rfl|rfl|rfl<;>exact⟨_,_,_,_,rfl,λ_=>by kernel_rfl⟩
theorem zm2 (k:Int)(h0:1<=k)(h1:k<=11):∃a o c b,zcA[k.toNat]?=some (a,o,c,b)/\∀w,(Instr.index 312 (tabV zcA) (.int .u8 k)).run Tryz.prog w= .ok (.agg #[.int .i64 a,.int .i64 o,.int .i64 c,.bool b]) w:=by
 have hk:k=1\/k=2\/k=3\/k=4\/k=5\/k=6\/k=7\/k=8\/k=9\/k=10\/k=11:=by omega
 rcases hk with rfl|rfl|rfl|rfl|rfl|rfl|rfl|rfl|rfl|rfl|rfl<;>exact⟨_,_,_,_,rfl,λ_=>by kernel_rfl⟩
theorem zm3 (k:Int)(h0:1<=k)(h1:k<=11):∃a o c b,zcB[k.toNat]?=some (a,o,c,b)/\∀w,(Instr.index 312 (tabV zcB) (.int .u8 k)).run Tryz.prog w= .ok (.agg #[.int .i64 a,.int .i64 o,.int .i64 c,.bool b]) w:=by
 have hk:k=1\/k=2\/k=3\/k=4\/k=5\/k=6\/k=7\/k=8\/k=9\/k=10\/k=11:=by omega
 rcases hk with rfl|rfl|rfl|rfl|rfl|rfl|rfl|rfl|rfl|rfl|rfl<;>exact⟨_,_,_,_,rfl,λ_=>by kernel_rfl⟩
def nmdB (is:Bool)(nm:ByteArray):Bool:=if is then zbk nm.data.toList else(nm.toList== [])
theorem zbt (is:Bool)(nm:ByteArray)(hs:nm.size<=9223372036854775807)(w:World)(he:SpEnv w):Calls Tryz.prog 167 #[.bool is,.string nm] w (zar (nmdB is nm) w):=by
 have H1:=aA (zd1 nm hs w he);clear he;cases is
 ·obtain⟨b,hb⟩:=aF ((nm.toList== []));have e0:(⟨#[]⟩:ByteArray).toList = []:=by decide+kernel
  have HB:=aA (show nmdB false nm=b from hb.symm);clear H1;cases b
  ·have e1:=hb.symm;clear hb;go_enter Tryz.func167,Tryz.ntmps167;go_wp2_with fail;go_ret;exact⟨by rw[HB.out];rfl,aH⟩
  ·have e1:=hb.symm;clear hb;go_enter Tryz.func167,Tryz.ntmps167;go_wp2_with fail;go_ret;exact⟨by rw[HB.out];rfl,aH⟩
 ·obtain⟨b,hb⟩:=aF (zbk nm.data.toList);have HB:=aA (show nmdB true nm=b from hb.symm);rw[<-hb]at H1;clear hb;cases b;all_goals
   go_enter Tryz.func167,Tryz.ntmps167;go_wp2_with fail;refine H1.mono ?_;rintro _ w1 ⟨rfl,hb⟩;have HF:=aA (show Fr NoT w w1 from Fr.below hb);clear hb;go_wp2_with fail;go_ret;exact⟨by rw[HB.out];rfl,HF.out⟩
def tabA (l:List (Int×Int×Int×Bool))(k:Int):Int×Int×Int×Bool:=(l[k.toNat]?).getD (0,0,0,false)
def okX:Exs->Bool
 | .nil =>true
 | .cons k nm n args _ r=>(decide (1<=k)&&decide (k<=11)&&decide (0<=n)&&(decide (n<=0) || k==1)&&nmdB (tabA zcA k).2.2.2 nm&&((args.len:Int)==(tabA zcA k).1)&&okX args)&&okX r
def okE (k:Int)(nm:ByteArray)(n:Int)(args:Exs)(_:Int):Bool:=decide (1<=k)&&decide (k<=11)&&decide (0<=n)&&(decide (n<=0) || k==1)&&nmdB (tabA zcA k).2.2.2 nm&&((args.len:Int)==(tabA zcA k).1)&&okX args
theorem zht:∀xs,zcS okE xs=okX xs
 | .nil =>rfl
 | .cons k nm n args at_ r=>by simp only[zcS,okX,okE,zht r]
def szX:Exs->Prop
 | .nil =>True
 | .cons _ nm _ args _ r=>nm.size<=9223372036854775807/\szX args/\szX r
theorem zm4 (k:Int)(nm:ByteArray)(n:Int)(at_:Int)(A:Option Addr)(l c:Nat)(r:Bool)(w:World)(he:SpEnv w)(hs:nm.size<=9223372036854775807)(hl:l<=9223372036854775807)
  (hc:∀W,Fr NoT w W->Calls Tryz.prog 168 #[.slice A l c,.func (.func 169) #[] #[]] W (zar r W)):
  Calls Tryz.prog 169 #[.agg #[.int .u8 k,.string nm,.int .i64 n,.slice A l c,.int .i64 at_]] w
   (zar (decide (1<=k)&&decide (k<=11)&&decide (0<=n)&&(decide (n<=0) || k==1)&&nmdB (tabA zcA k).2.2.2 nm&&((l:Int)==(tabA zcA k).1)&&r) w):=by
 obtain⟨R,hR⟩:=aF ((decide (1<=k)&&decide (k<=11)&&decide (0<=n)&&(decide (n<=0) || k==1)&&nmdB (tabA zcA k).2.2.2 nm&&((l:Int)==(tabA zcA k).1)&&r));rw[<-hR];have HC:=aA hc;have HE:=aA he;have HS:=aA hs;clear hc he hs;by_cases h1:1<=k
 rotate_left
 ·have HF:=aA (show R=false from by rw[hR];simp[h1]);have e1:decide (k < 1)=true:=by simp;omega
  clear hR h1;go_enter Tryz.func169,Tryz.ntmps169;go_wp2_with fail;go_ret;exact⟨by rw[HF.out];rfl,aH.alloc _⟩
 by_cases h2:k<=11
 rotate_left
 ·have HF:=aA (show R=false from by rw[hR];simp[h2]);have e1:decide (k < 1)=false:=by simp;omega
  have e2:decide (11 < k)=true:=by simp;omega
  clear hR h1 h2;go_enter Tryz.func169,Tryz.ntmps169;go_wp2_with fail;go_ret;exact⟨by rw[HF.out];rfl,aH.alloc _⟩
 obtain⟨a,o,c2,b,NH,FD⟩:=zm2 k h1 h2;have NG:tabA zcA k=(a,o,c2,b):=by unfold tabA;rw[NH];rfl
 rw[NG]at hR;simp only at hR;have e1:decide (k < 1)=false:=by simp;omega
 have e2:decide (11 < k)=false:=by simp;omega
 by_cases h3:0<=n
 rotate_left
 ·have HF:=aA (show R=false from by rw[hR];simp[h3]);have e3:decide (n < 0)=true:=by simp;omega
  clear hR h1 h2 h3 FD NH NG;go_enter Tryz.func169,Tryz.ntmps169;go_wp2_with fail;go_ret;exact⟨by rw[HF.out];rfl,aH.alloc _⟩
 have e3:decide (n < 0)=false:=by simp;omega
 by_cases h4:0 < n/\k≠1
 ·have HF:=aA (show R=false from by
   rw[hR];have x1:decide (n<=0)=false:=by simp;omega
   have x2:(k==1)=false:=by simpa using h4.2
   rw[x1,x2];simp)
  have e4:decide (0 < n)=true:=by simpa using h4.1
  have e5:(k != 1)=true:=by simpa using h4.2
  clear hR h1 h2 h3 h4 FD NH NG;go_enter Tryz.func169,Tryz.ntmps169;go_wp2_with fail;go_ret;exact⟨by rw[HF.out];rfl,aH.alloc _⟩
 have LN:(decide (n<=0) || k==1)=true:=by
  by_cases h:n<=0
  ·simp[h]
  ·have:k=1:=by
    refine Decidable.byContradiction λhk=>h4 ⟨by omega,hk⟩
   simp[this]
 have Fh:=aA (show R=(nmdB b nm&&((l:Int)==a)&&r)from by
  have x1:decide (1<=k)=true:=by simpa using h1
  have x2:decide (k<=11)=true:=by simpa using h2
  have x3:decide (0<=n)=true:=by simpa using h3
  rw[hR,LN,x1,x2,x3];simp)
 have hn:decide (0 < n)=false\/(decide (0 < n)=true/\(k != 1)=false):=by
  by_cases h:0 < n
  ·right
   refine⟨by simpa using h,?_⟩;have:k=1:=Decidable.byContradiction λhk=>h4 ⟨h,hk⟩;simp[this]
  ·left;simpa using h
 have Ma:=aA (λ(W:World)(h:Fr NoT w W)=>zbt b nm HS.out W (HE.keep h.plain));obtain⟨q,hq⟩:=aF (nmdB b nm);rw[<-hq]at Ma Fh;have Gw:=aA (Bk.new w 175 #[.int .u8 k,.string nm,.int .i64 n,.slice A l c,.int .i64 at_]);obtain⟨w1,Hc⟩:=aF (w.alloc (.cells #[.int .u8 k,.string nm,.int .i64 n,.slice A l c,.int .i64 at_] 175));rw[<-Hc]at Gw;have Hl:=aA (show Fr NoT w w1 from by rw[Hc];exact aH.alloc _);have Ge:=aA Hc;clear hR h1 h2 h3 h4 NH NG LN hq Hc;rcases hn with e4|⟨e4,e5⟩;all_goals
  go_enter Tryz.func169,Tryz.ntmps169
  go_upto_region 3 with fail
  rw[<-Ge.out];have xu:=Gw.cell 0;have Fw:=Gw.lt;simp only[aD]at xu;go_cut [3] (λs3 wx=>∃P:Nat,s3= .pointer (some ⟨P,0,none⟩)/\Fr NoT w1 wx/\P < wx.heap.size/\wx.cell? ⟨P,0,none⟩=some (.int .i64 a)/\wx.cell? ⟨P,1,none⟩=some (.int .i64 o)/\wx.cell? ⟨P,2,none⟩=some (.int .i64 c2)/\wx.cell? ⟨P,3,none⟩=some (.bool b));case first=>
   go_region_law
    (first
     |(go_simp
       go_at_call 222
       with_reducible refine(zgP (w1.alloc (.cells #[.int .i64 0,.int .i64 0,.int .i64 0,.bool false] 270)).drew).mono ?_
       rintro _ w5 ⟨rfl,hb⟩;have Hm:Fr NoT w1 w5:=(Fr.drew (aH.alloc _)).trans (Fr.below hb);have Hz:=((Bk.new w1 270 #[.int .i64 0,.int .i64 0,.int .i64 0,.bool false]).fr0 (Fr.drew aI)).fr0 (Fr.below hb);have xr:=(Gw.fr0 Hm).cell 0;have z0:=Hz.cell 0;have z1:=Hz.cell 1;have z2:=Hz.cell 2;have z3:=Hz.cell 3;have y0:=Hz.frozen 0;have y1:=Hz.frozen 1;have y2:=Hz.frozen 2;have y3:=Hz.frozen 3;have Jr:=(Gw.fr0 Hm).lt;have Jb:=Hz.lt;simp only[aD]at xr z0 z1 z2 z3;have Gk:=aA Hm;have JF:=aA Hz;clear hb Hm Hz;dsimp only)
     |(go_simp
       go_at_call 222
       with_reducible refine(zgP w1.drew).mono ?_
       rintro _ w5 ⟨rfl,hb⟩;have Hm:Fr NoT w1 w5:=(Fr.drew aH).trans (Fr.below hb);have xr:=(Gw.fr0 Hm).cell 0;simp only[aD]at xr;have Jr:=(Gw.fr0 Hm).lt;have Gk:=aA Hm;clear hb Hm;dsimp only))
   all_goals
    go_wp2_with fail
    go_meet
    first
     |(refine⟨_,rfl,Gk.alloc _,by simp,?_⟩
       simp)
     |(refine⟨_,rfl,(((Gk.high (aL _) 0 _).high (aL _) 1 _).high (aL _) 2 _).high (aL _) 3 _,by simpa using Jb,?_⟩
       have h:=(((JF.set_ 0 (.int .i64 a)).set_ 1 (.int .i64 o)).set_ 2 (.int .i64 c2)).set_ 3 (.bool b);exact⟨h.cell 0,h.cell 1,h.cell 2,h.cell 3⟩)
  case rest=>
   obtain⟨P,rfl,Jw,hP,p0,p1,p2,p3⟩:=hcut;have hbx:=Gw.fr0 Jw;have b1:=hbx.cell 1;have Wz:=hbx.lt;simp only[aD]at b1;have Mp:=aA (Hl.trans Jw);have JV:=aA hbx;clear Jw hbx xu FD;go_wp2_with fail;refine(Ma _ Mp.out).mono ?_;rintro _ w6 ⟨rfl,hb⟩;have Hy:=JV.fr0 hb;have b3:=Hy.cell 3;have Jb:=Hy.lt;have xH:=(hb.cell (p:=⟨P,0,none⟩) hP id).trans p0;have Ye:=aM hP hb.size;simp only[aD]at b3;have G1:=aA (Mp.trans hb);clear hb Hy b1 p0 p1 p2 p3;cases q
   ·have HF:=aA (show R=false from by rw[Fh.out];simp);go_wp2_with fail;go_ret;exact⟨by rw[HF.out];rfl,G1.out⟩
   cases h7:(l:Int)==a
   ·have HF:=aA (show R=false from by rw[Fh.out,h7];simp);go_wp2_with fail;go_ret;exact⟨by rw[HF.out];rfl,G1.out⟩
   have HF:=aA (show R=r from by rw[Fh.out,h7];simp);go_wp2_with fail;refine(HC _ G1.out).mono ?_;rintro _ w7 ⟨rfl,hb⟩;have Fp:=aA (G1.trans hb);clear hb;go_wp2_with fail;go_ret;exact⟨by rw[HF.out];rfl,Fp.out⟩
theorem zer:∀(xs:Exs)(w:World)(S:Nat->Prop)(Z:Prop),SpEnv w->(∀b,S b->b < w.heap.size)->szX xs->AskEx 169 #[] w S Z okE xs
 | .nil,_,_,_,_,_,_=>λi _ _ _ _ _ _ hd=>by cases i<;>simp[Exs.drop]at hd
 | .cons k nm n args at_ rest,w,S,Z,he,hS,Hx=>λi _ _ _ _ _ _ hd r1 r2 W A3 q3 hw s3=>by
  cases i with
  |zero=>
   simp only[Exs.drop]at hd;injection hd with e1 e2 e3 e4 e5 e6;subst e1 e2 e3 e4 e5 e6;rw[Array.append_empty];refine zm4 k nm n at_ A3 args.len q3 (okX args) W (he.keep hw.plain) Hx.1 (aK s3.1 s3.2.1.1) λW2 h2=>?_;have PX:∀b,S b->b < W2.heap.size:=λb hb=>aM (hS b hb) (hw.trans h2).size;have:=zgN okE args A3 q3 169 #[] W2 S Z PX (s3.imp λ_ _ hx=>ExR.keep (h2.same λb hb=>⟨aM (hS b hb) hw.size,id⟩) hx) (enters_of Tryz.func169 (by kernel_rfl) rfl) (zer args W2 S Z (he.keep (hw.trans h2).plain) PX Hx.2.1);rw[zht]at this;exact this
  |succ i=>
   simp only[Exs.drop]at hd;exact zer rest w S Z he hS Hx.2.2 i _ _ _ _ _ _ hd r1 r2 W A3 q3 hw s3
theorem zgR (xs:Exs)(A:Option Addr)(c:Nat)(w:World)(S:Nat->Prop)(Z:Prop)(he:SpEnv w)(hS:∀b,S b->b < w.heap.size)(Hx:szX xs)(hx:SlR (λb o=>ExR w S Z xs b o) xs.len 64 A c):
  Calls Tryz.prog 168 #[.slice A xs.len c,.func (.func 169) #[] #[]] w (zar (okX xs) w):=by
 have:=zgN okE xs A c 169 #[] w S Z hS hx (enters_of Tryz.func169 (by kernel_rfl) rfl) (zer xs w S Z he hS Hx);rw[zht]at this;exact this
def okC:Cds->Bool
 | .nil =>true
 | .cons k args of_ _ r=>(decide (1<=k)&&decide (k<=11)&&((args.len:Int)==(tabA zcB k).1)&&((of_.len:Int)==(tabA zcB k).2.1)&&okX args&&okC of_)&&okC r
def okD (k:Int)(args:Exs)(of_:Cds)(_:Int):Bool:=decide (1<=k)&&decide (k<=11)&&((args.len:Int)==(tabA zcB k).1)&&((of_.len:Int)==(tabA zcB k).2.1)&&okX args&&okC of_
theorem zhu:∀xs,zcT okD xs=okC xs
 | .nil =>rfl
 | .cons k args of_ at_ r=>by simp only[zcT,okC,okD,zhu r]
def szC:Cds->Prop
 | .nil =>True
 | .cons _ args of_ _ r=>szX args/\szC of_/\szC r
theorem zm5 (k:Int)(at_:Int)(A:Option Addr)(l c:Nat)(B:Option Addr)(m d:Nat)(r t:Bool)(w:World)(hl:l<=9223372036854775807)(hm:m<=9223372036854775807)
  (hc:∀W,Fr NoT w W->Calls Tryz.prog 168 #[.slice A l c,.func (.func 169) #[] #[]] W (zar r W))
  (hd:∀W,Fr NoT w W->Calls Tryz.prog 170 #[.slice B m d,.func (.func 171) #[] #[]] W (zar t W)):
  Calls Tryz.prog 171 #[.agg #[.int .u8 k,.slice A l c,.slice B m d,.int .i64 at_]] w
   (zar (decide (1<=k)&&decide (k<=11)&&((l:Int)==(tabA zcB k).1)&&((m:Int)==(tabA zcB k).2.1)&&r&&t) w):=by
 obtain⟨R,hR⟩:=aF ((decide (1<=k)&&decide (k<=11)&&((l:Int)==(tabA zcB k).1)&&((m:Int)==(tabA zcB k).2.1)&&r&&t));rw[<-hR];have HC:=aA hc;have HD:=aA hd;clear hc hd;by_cases h1:1<=k
 rotate_left
 ·have HF:=aA (show R=false from by rw[hR];simp[h1]);have e1:decide (k < 1)=true:=by simp;omega
  clear hR h1;go_enter Tryz.func171,Tryz.ntmps171;go_wp2_with fail;go_ret;exact⟨by rw[HF.out];rfl,aH.alloc _⟩
 by_cases h2:k<=11
 rotate_left
 ·have HF:=aA (show R=false from by rw[hR];simp[h2]);have e1:decide (k < 1)=false:=by simp;omega
  have e2:decide (11 < k)=true:=by simp;omega
  clear hR h1 h2;go_enter Tryz.func171,Tryz.ntmps171;go_wp2_with fail;go_ret;exact⟨by rw[HF.out];rfl,aH.alloc _⟩
 obtain⟨a,o,c2,b,NH,FD⟩:=zm3 k h1 h2;have NG:tabA zcB k=(a,o,c2,b):=by unfold tabA;rw[NH];rfl
 rw[NG]at hR;simp only at hR;have e1:decide (k < 1)=false:=by simp;omega
 have e2:decide (11 < k)=false:=by simp;omega
 have Fh:=aA (show R=(((l:Int)==a)&&((m:Int)==o)&&r&&t)from by
  have x1:decide (1<=k)=true:=by simpa using h1
  have x2:decide (k<=11)=true:=by simpa using h2
  rw[hR,x1,x2];simp)
 have Gw:=aA (Bk.new w 179 #[.int .u8 k,.slice A l c,.slice B m d,.int .i64 at_]);obtain⟨w1,Hc⟩:=aF (w.alloc (.cells #[.int .u8 k,.slice A l c,.slice B m d,.int .i64 at_] 179));rw[<-Hc]at Gw;have Hl:=aA (show Fr NoT w w1 from by rw[Hc];exact aH.alloc _);have Ge:=aA Hc;clear hR h1 h2 NH NG Hc;all_goals
  go_enter Tryz.func171,Tryz.ntmps171
  go_upto_region 3 with fail
  rw[<-Ge.out];have xu:=Gw.cell 0;have Fw:=Gw.lt;simp only[aD]at xu;go_cut [3] (λs3 wx=>∃P:Nat,s3= .pointer (some ⟨P,0,none⟩)/\Fr NoT w1 wx/\P < wx.heap.size/\wx.cell? ⟨P,0,none⟩=some (.int .i64 a)/\wx.cell? ⟨P,1,none⟩=some (.int .i64 o)/\wx.cell? ⟨P,2,none⟩=some (.int .i64 c2)/\wx.cell? ⟨P,3,none⟩=some (.bool b));case first=>
   go_region_law
    (first
     |(go_simp
       go_at_call 225
       with_reducible refine(zgQ (w1.alloc (.cells #[.int .i64 0,.int .i64 0,.int .i64 0,.bool false] 270)).drew).mono ?_
       rintro _ w5 ⟨rfl,hb⟩;have Hm:Fr NoT w1 w5:=(Fr.drew (aH.alloc _)).trans (Fr.below hb);have Hz:=((Bk.new w1 270 #[.int .i64 0,.int .i64 0,.int .i64 0,.bool false]).fr0 (Fr.drew aI)).fr0 (Fr.below hb);have xr:=(Gw.fr0 Hm).cell 0;have z0:=Hz.cell 0;have z1:=Hz.cell 1;have z2:=Hz.cell 2;have z3:=Hz.cell 3;have y0:=Hz.frozen 0;have y1:=Hz.frozen 1;have y2:=Hz.frozen 2;have y3:=Hz.frozen 3;have Jr:=(Gw.fr0 Hm).lt;have Jb:=Hz.lt;simp only[aD]at xr z0 z1 z2 z3;have Gk:=aA Hm;have JF:=aA Hz;clear hb Hm Hz;dsimp only)
     |(go_simp
       go_at_call 225
       with_reducible refine(zgQ w1.drew).mono ?_
       rintro _ w5 ⟨rfl,hb⟩;have Hm:Fr NoT w1 w5:=(Fr.drew aH).trans (Fr.below hb);have xr:=(Gw.fr0 Hm).cell 0;simp only[aD]at xr;have Jr:=(Gw.fr0 Hm).lt;have Gk:=aA Hm;clear hb Hm;dsimp only))
   all_goals
    go_wp2_with fail
    go_meet
    first
     |(refine⟨_,rfl,Gk.alloc _,by simp,?_⟩
       simp)
     |(refine⟨_,rfl,(((Gk.high (aL _) 0 _).high (aL _) 1 _).high (aL _) 2 _).high (aL _) 3 _,by simpa using Jb,?_⟩
       have h:=(((JF.set_ 0 (.int .i64 a)).set_ 1 (.int .i64 o)).set_ 2 (.int .i64 c2)).set_ 3 (.bool b);exact⟨h.cell 0,h.cell 1,h.cell 2,h.cell 3⟩)
  case rest=>
   obtain⟨P,rfl,Jw,hP,p0,p1,p2,p3⟩:=hcut;have hbx:=Gw.fr0 Jw;have b1:=hbx.cell 1;have b2:=hbx.cell 2;have Wz:=hbx.lt;simp only[aD]at b1 b2;have Mp:=aA (Hl.trans Jw);have JV:=aA hbx;clear Jw hbx xu FD;cases h7:(l:Int)==a
   ·have HF:=aA (show R=false from by rw[Fh.out,h7];simp);go_wp2_with fail;go_ret;exact⟨by rw[HF.out];rfl,Mp.out⟩
   cases h8:(m:Int)==o
   ·have HF:=aA (show R=false from by rw[Fh.out,h7,h8];simp);go_wp2_with fail;go_ret;exact⟨by rw[HF.out];rfl,Mp.out⟩
   go_wp2_with fail;refine(HC _ Mp.out).mono ?_;rintro _ w6 ⟨rfl,hb⟩;have Hy:=JV.fr0 hb;have b3:=Hy.cell 2;have Jb:=Hy.lt;simp only[aD]at b3;have G1:=aA (Mp.trans hb);clear hb Hy b1 b2 p0 p1 p2 p3;cases r
   ·have HF:=aA (show R=false from by rw[Fh.out];simp);go_wp2_with fail;go_ret;exact⟨by rw[HF.out];rfl,G1.out⟩
   have HF:=aA (show R=t from by rw[Fh.out,h7,h8];simp);go_wp2_with fail;refine(HD _ G1.out).mono ?_;rintro _ w7 ⟨rfl,hb⟩;have Fp:=aA (G1.trans hb);clear hb;go_wp2_with fail;go_ret;exact⟨by rw[HF.out];rfl,Fp.out⟩
theorem zes:∀(xs:Cds)(w:World)(S:Nat->Prop)(Z:Prop),SpEnv w->(∀b,S b->b < w.heap.size)->szC xs->AskCd 171 #[] w S Z okD xs
 | .nil,_,_,_,_,_,_=>λi _ _ _ _ _ hd=>by cases i<;>simp[Cds.drop]at hd
 | .cons k args of_ at_ rest,w,S,Z,he,hS,Hx=>λi _ _ _ _ _ hd r1 W A1 q1 A2 q2 hw s1 s2=>by
  cases i with
  |zero=>
   simp only[Cds.drop]at hd;injection hd with e1 e2 e3 e4 e5;subst e1 e2 e3 e4 e5;rw[Array.append_empty];refine zm5 k at_ A1 args.len q1 A2 of_.len q2 (okX args) (okC of_) W (aK s1.1 s1.2.1.1) (aK s2.1 s2.2.1.1) (λW2 h2=>?_) (λW2 h2=>?_)
   ·exact zgR args A1 q1 W2 S Z (he.keep (hw.trans h2).plain) (λb hb=>aM (hS b hb) (hw.trans h2).size) Hx.1 (s1.imp λ_ _ hx=>ExR.keep (h2.same λb hb=>⟨aM (hS b hb) hw.size,id⟩) hx)
   ·have PX:∀b,S b->b < W2.heap.size:=λb hb=>aM (hS b hb) (hw.trans h2).size;have:=zgO okD of_ A2 q2 171 #[] W2 S Z PX (s2.imp λ_ _ hx=>CdR.keep (h2.same λb hb=>⟨aM (hS b hb) hw.size,id⟩) hx) (enters_of Tryz.func171 (by kernel_rfl) rfl) (zes of_ W2 S Z (he.keep (hw.trans h2).plain) PX Hx.2.1);rw[zhu]at this;exact this
  |succ i=>
   simp only[Cds.drop]at hd;exact zes rest w S Z he hS Hx.2.2 i _ _ _ _ _ hd r1 W A1 q1 A2 q2 hw s1 s2
theorem zkL (xs:Cds)(A:Option Addr)(c:Nat)(w:World)(S:Nat->Prop)(Z:Prop)(he:SpEnv w)(hS:∀b,S b->b < w.heap.size)(Hx:szC xs)(hx:SlR (λb o=>CdR w S Z xs b o) xs.len 64 A c):
  Calls Tryz.prog 170 #[.slice A xs.len c,.func (.func 171) #[] #[]] w (zar (okC xs) w):=by
 have:=zgO okD xs A c 171 #[] w S Z hS hx (enters_of Tryz.func171 (by kernel_rfl) rfl) (zes xs w S Z he hS Hx);rw[zhu]at this;exact this
def okS:Sts->Bool
 | .nil =>true
 | .cons k nm args cond body els _ r=>(decide (1<=k)&&decide (k<=9)&&nmdB (tabA zaK k).2.2.2 nm&&(decide ((tabA zaK k).1 < 0) || (args.len:Int)==(tabA zaK k).1)&&((cond.len:Int)==(tabA zaK k).2.2.1)&&(k==7 || k==8 || body.len==0)&&(k==7 || els.len==0)&&okX args&&okC cond&&okS body&&okS els)&&okS r
def okT (k:Int)(nm:ByteArray)(args:Exs)(cond:Cds)(body els:Sts)(_:Int):Bool:=decide (1<=k)&&decide (k<=9)&&nmdB (tabA zaK k).2.2.2 nm&&(decide ((tabA zaK k).1 < 0) || (args.len:Int)==(tabA zaK k).1)&&((cond.len:Int)==(tabA zaK k).2.2.1)&&(k==7 || k==8 || body.len==0)&&(k==7 || els.len==0)&&okX args&&okC cond&&okS body&&okS els
theorem zfQ:∀xs,zcU okT xs=okS xs
 | .nil =>rfl
 | .cons k nm args cond body els at_ r=>by simp only[zcU,okS,okT,zfQ r]
def szS:Sts->Prop
 | .nil =>True
 | .cons _ nm args cond body els _ r=>nm.size<=9223372036854775807/\szX args/\szC cond/\szS body/\szS els/\szS r
def AllC (f g:Nat)(w:World)(A:Option Addr)(l c:Nat)(r:Bool):Prop:=∀W,Fr NoT w W->Calls Tryz.prog f #[.slice A l c,.func (.func g) #[] #[]] W (zar r W)
