/-
  Small words that the walks over trees share. No program.
-/
import Derived.Test.YtfomomaomggpbaaGreatDoorJgLxE
import Derived.WalkMore
set_option linter.unusedVariables false
set_option linter.unusedSimpArgs false
set_option maxHeartbeats 1600000
set_option maxRecDepth 100000
namespace Go.Proofs.YtfomomaomggpbaaGreatDoor
open Go.RowKit Go.Shelf

def EqPost (b:Bool) (W:World) (e:Ending) (w':World):Prop:=e= .returned (.bool b)∧Fr NoT W w'
theorem drop_head1 {α:Type} {l:List α} {k:Nat} (h:k < l.length):∃x r,l.drop k=x::r∧l.drop (k+1)=r:=
 ⟨_,_,List.drop_eq_getElem_cons h,rfl⟩
theorem bk4 {w:World} {g:Nat} {t:TypeId} {a b c d:Value} (h:Bk w g t #[a,b,c,d]):w.cell? ⟨g,0,none⟩=some a∧w.cell? ⟨g,1,none⟩=some b∧w.cell? ⟨g,2,none⟩=some c∧w.cell? ⟨g,3,none⟩=some d∧g < w.heap.size:=
 ⟨h.cell 0,h.cell 1,h.cell 2,h.cell 3,h.lt⟩

def IdxP (b:Bool) (W:World) (e:Ending) (w':World):Prop:=∃n:Int,decide (0≤n)=b∧e= .returned (.int .i64 n)∧Fr NoT W w'
def allVa (p:ByteArray→Int→Bool) (xs:List Va):Bool:=xs.all fun x=>p x.nm x.at_
theorem allVa_step {p:ByteArray→Int→Bool} {xs:List Va} {i:Nat} {a0 a1 ar} (hd:xs.drop i=(⟨a0,a1⟩:Va)::ar∧xs.drop (i+1)=ar):allVa p (xs.drop i)=(p a0 a1&&allVa p (xs.drop (i+1))):=by
 rw[hd.1,hd.2];rfl
def AskVa (g:Nat) (cap:Array Value) (w:World) (S:Nat→Prop) (Z:Prop) (p:ByteArray→Int→Bool) (xs:List Va):Prop:=
 ∀(i:Nat) (a0:ByteArray) (a1:Int) (ar:List Va),xs.drop i=(⟨a0,a1⟩:Va)::ar→∀(W:World),Fr NoT w W→Calls Tryz.prog g (#[.agg #[.string a0,.int .i64 a1]]++cap) W (EqPost (p a0 a1) W)
theorem AskVa.next {g:Nat} {cap:Array Value} {w w1:World} {S:Nat→Prop} {Z:Prop} {p:ByteArray→Int→Bool} {xs:List Va} (h:AskVa g cap w S Z p xs) (hf:Fr NoT w w1):AskVa g cap w1 S Z p xs:=
 fun i a0 a1 ar hd W hw=>h i a0 a1 ar hd W (hf.trans hw)
theorem idxVa (p:ByteArray→Int→Bool) (xs:List Va) (A:Option Addr) (c:Nat) (g:Nat) (cap:Array Value) (w:World) (S:Nat→Prop) (Z:Prop) (hS:∀b,S b→b < w.heap.size) (hx:SlR (fun b o=>VaR w S Z xs b o) xs.length 24 A c) (hent:Enters Tryz.prog g) (hask:AskVa g cap w S Z (fun a0 a1=> !(p a0 a1)) xs):
  Calls Tryz.prog 219 #[.slice A xs.length c,.func (.func g) #[] cap] w (IdxP (!(allVa p xs)) w):=by
 have hl:xs.length≤9223372036854775807:=leq9 hx.1 hx.2.1.1
 have HA:=hdq hask
 have HX:=hdq hx
 have HS:=hdq hS
 obtain⟨m,hm⟩:=nmq xs.length
 rw[←hm]at hl ⊢
 have HM:=hdq hm
 clear hask hx hS hm
 unfold Enters at hent
 go_enter Tryz.func219,Tryz.ntmps219
 go_wp2_with fail
 go_loopw [8] (fun i wr=>∃k:Nat,k≤m∧i= .int .i64 k∧Hid (Fr NoT w wr)∧Hid (allVa p xs=allVa p (xs.drop k))) (fun i _=>m - (intOf i).toNat)
 case atStart=>exact⟨0,Nat.zero_le _,rfl,Fr.refl _ _,rfl⟩
 case round=>
  obtain⟨k,hk,rfl,hb,hall⟩:=hrel
  by_cases hlt:k < m
  ·obtain⟨⟨a0,a1⟩,ar,hd⟩:=drop_head1 (show k < xs.length from by rw[←HM.out];exact hlt)
   obtain⟨b,o,rfl,hat⟩:=HX.out.2.2 (by rw[←HM.out];omega)
   have hat1:=(VaR.keep (hb.out.same fun b hb=>⟨HS.out b hb,id⟩) hat).drop k
   rw[hd.1]at hat1
   obtain⟨⟨hbS,_,_,c0,c1⟩,_⟩:=hat1
   have hxr:b < wr.heap.size:=ltq (HS.out _ hbS) hb.out.size
   have hlt':(k:Int) < (m:Int):=by omega
   have hge:(0:Int)≤(k:Int):=by omega
   simp only at c0 c1
   have HC:=hdq (HA.out k a0 a1 ar hd.1 wr hb.out)
   have HST:=hdq (hall.out.trans (allVa_step hd))
   have HB:=hdq hb.out
   clear hd hat hall hb hbS
   go_wp2_with fail
   refine HC.out.mono ?_
   rintro _ w1 ⟨rfl,hb1⟩
   have HB1:=hdq (HB.out.trans hb1)
   clear hb1 c0 c1
   cases hp:p a0 a1
   ·have HF:=hdq (show allVa p xs=false from by rw[HST.out,hp];rfl)
    clear hp HST
    go_wp2_with fail
    go_ret
    exact⟨k,by rw[HF.out];simp,rfl,HB1.out⟩
   ·have HN:=hdq (show allVa p xs=allVa p (xs.drop (k+1))from by rw[HST.out,hp];rfl)
    clear hp HST
    go_wp2_with fail
    go_roundw
    case rel=>exact⟨k+1,by omega,by go_num,HB1.out,HN⟩
    case measure=>simp[intOf];omega
  ·have HF:=hdq (show allVa p xs=true from by rw[hall.out,List.drop_eq_nil_of_le (by rw[←HM.out];omega)];rfl)
   have HB:=hdq hb.out
   clear hall hb
   go_wp2_with fail
   go_ret
   exact⟨-1,by rw[HF.out];simp,rfl,HB.out⟩
theorem conVa (p:ByteArray→Int→Bool) (xs:List Va) (A:Option Addr) (c:Nat) (g:Nat) (cap:Array Value) (w:World) (S:Nat→Prop) (Z:Prop) (hS:∀b,S b→b < w.heap.size) (hx:SlR (fun b o=>VaR w S Z xs b o) xs.length 24 A c) (hent:Enters Tryz.prog g) (hask:AskVa g cap w S Z (fun a0 a1=> !(p a0 a1)) xs):
  Calls Tryz.prog 162 #[.slice A xs.length c,.func (.func g) #[] cap] w (EqPost (!(allVa p xs)) w):=by
 have HC:=hdq (idxVa p xs A c g cap w S Z hS hx hent hask)
 clear hask hent hx hS
 go_enter Tryz.func162,Tryz.ntmps162
 go_wp2_with fail
 refine HC.out.mono ?_
 rintro e w1 ⟨n,hn,rfl,hb⟩
 have HN:=hdq hn
 have HB:=hdq hb
 clear hn hb
 go_wp2_with fail
 go_ret
 exact⟨by rw[←HN.out];rfl,HB.out⟩
theorem clVa (p:ByteArray→Int→Bool) (xs:List Va) (g:Nat) (cap:Array Value) (w:World) (S:Nat→Prop) (Z:Prop) (hS:∀b,S b→b < w.heap.size) (B:Nat) (hbk:Bk w B 209 #[.func (.func g) #[] cap]) (hent:Enters Tryz.prog g) (hask:AskVa g cap w S Z p xs):AskVa 163 #[.pointer (some ⟨B,0,none⟩)] w S Z (fun a0 a1=> !(p a0 a1)) xs:=by
 intro i a0 a1 ar hd W hw
 have hw1:Fr NoT W (W.alloc (.cells #[.string a0,.int .i64 a1] 77)):=(Fr.refl _ _).alloc _
 have HC:=hdq (hask i a0 a1 ar hd _ (hw.trans hw1))
 have hb:=hbk.fr0 hw
 have c0:=hb.cell 0
 have hl:=hb.lt
 simp only[List.getElem?_toArray,List.getElem?_cons_zero]at c0
 have HW1:=hdq hw1
 clear hask hd hw hw1 hS hbk hb
 unfold Enters at hent
 go_enter Tryz.func163,Tryz.ntmps163
 go_wp2_with fail
 refine HC.out.mono ?_
 rintro _ w1 ⟨rfl,hb⟩
 have HB:=hdq (HW1.out.trans hb)
 clear hb
 go_wp2_with fail
 go_ret
 exact⟨rfl,HB.out⟩
theorem allVa_any (p:ByteArray→Int→Bool) (xs:List Va) (A:Option Addr) (c:Nat) (g:Nat) (cap:Array Value) (w:World) (S:Nat→Prop) (Z:Prop) (hS:∀b,S b→b < w.heap.size) (hx:SlR (fun b o=>VaR w S Z xs b o) xs.length 24 A c) (hent:Enters Tryz.prog g) (hask:AskVa g cap w S Z p xs):
  Calls Tryz.prog 92 #[.slice A xs.length c,.func (.func g) #[] cap] w (EqPost (allVa p xs) w):=by
 have hmf:= @makeF Tryz.prog
 have hw1:Fr NoT w (w.alloc (.cells #[.func (.func g) #[] cap] 209)):=(Fr.refl _ _).alloc _
 have hS1:∀b,S b→b < (w.alloc (.cells #[.func (.func g) #[] cap] 209)).heap.size :=fun b hb=>ltq (hS b hb) hw1.size
 have HC:=hdq (conVa p xs A c 163 #[.pointer (some ⟨w.heap.size,0,none⟩)] _ S Z hS1 (hx.imp fun _ _ hx=>VaR.keep (hw1.same fun b hb=>⟨hS b hb,id⟩) hx) (enters_of Tryz.func163 (by kernel_rfl) rfl)
  (clVa p xs g cap _ S Z hS1 w.heap.size (Bk.new _ _ _) hent (hask.next hw1)))
 have HW1:=hdq hw1
 clear hask hent hx hS hS1 hw1
 go_enter Tryz.func92,Tryz.ntmps92
 go_wp2_with fail
 refine HC.out.mono ?_
 rintro _ w1 ⟨rfl,hb⟩
 have HB:=hdq (HW1.out.trans hb)
 clear hb
 go_wp2_with fail
 go_ret
 exact⟨by simp,HB.out⟩

def allAr (p:ByteArray→Int→Int→Bool) (xs:List Arr):Bool:=xs.all fun x=>p x.nm x.size x.at_
theorem allAr_step {p:ByteArray→Int→Int→Bool} {xs:List Arr} {i:Nat} {a0 a1 a2 ar} (hd:xs.drop i=(⟨a0,a1,a2⟩:Arr)::ar∧xs.drop (i+1)=ar):allAr p (xs.drop i)=(p a0 a1 a2&&allAr p (xs.drop (i+1))):=by
 rw[hd.1,hd.2];rfl
def AskAr (g:Nat) (cap:Array Value) (w:World) (S:Nat→Prop) (Z:Prop) (p:ByteArray→Int→Int→Bool) (xs:List Arr):Prop:=
 ∀(i:Nat) (a0:ByteArray) (a1:Int) (a2:Int) (ar:List Arr),xs.drop i=(⟨a0,a1,a2⟩:Arr)::ar→∀(W:World),Fr NoT w W→Calls Tryz.prog g (#[.agg #[.string a0,.int .i64 a1,.int .i64 a2]]++cap) W (EqPost (p a0 a1 a2) W)
theorem AskAr.next {g:Nat} {cap:Array Value} {w w1:World} {S:Nat→Prop} {Z:Prop} {p:ByteArray→Int→Int→Bool} {xs:List Arr} (h:AskAr g cap w S Z p xs) (hf:Fr NoT w w1):AskAr g cap w1 S Z p xs:=
 fun i a0 a1 a2 ar hd W hw=>h i a0 a1 a2 ar hd W (hf.trans hw)
theorem idxAr (p:ByteArray→Int→Int→Bool) (xs:List Arr) (A:Option Addr) (c:Nat) (g:Nat) (cap:Array Value) (w:World) (S:Nat→Prop) (Z:Prop) (hS:∀b,S b→b < w.heap.size) (hx:SlR (fun b o=>ArR w S Z xs b o) xs.length 32 A c) (hent:Enters Tryz.prog g) (hask:AskAr g cap w S Z (fun a0 a1 a2=> !(p a0 a1 a2)) xs):
  Calls Tryz.prog 226 #[.slice A xs.length c,.func (.func g) #[] cap] w (IdxP (!(allAr p xs)) w):=by
 have hl:xs.length≤9223372036854775807:=leq9 hx.1 hx.2.1.1
 have HA:=hdq hask
 have HX:=hdq hx
 have HS:=hdq hS
 obtain⟨m,hm⟩:=nmq xs.length
 rw[←hm]at hl ⊢
 have HM:=hdq hm
 clear hask hx hS hm
 unfold Enters at hent
 go_enter Tryz.func226,Tryz.ntmps226
 go_wp2_with fail
 go_loopw [8] (fun i wr=>∃k:Nat,k≤m∧i= .int .i64 k∧Hid (Fr NoT w wr)∧Hid (allAr p xs=allAr p (xs.drop k))) (fun i _=>m - (intOf i).toNat)
 case atStart=>exact⟨0,Nat.zero_le _,rfl,Fr.refl _ _,rfl⟩
 case round=>
  obtain⟨k,hk,rfl,hb,hall⟩:=hrel
  by_cases hlt:k < m
  ·obtain⟨⟨a0,a1,a2⟩,ar,hd⟩:=drop_head1 (show k < xs.length from by rw[←HM.out];exact hlt)
   obtain⟨b,o,rfl,hat⟩:=HX.out.2.2 (by rw[←HM.out];omega)
   have hat1:=(ArR.keep (hb.out.same fun b hb=>⟨HS.out b hb,id⟩) hat).drop k
   rw[hd.1]at hat1
   obtain⟨⟨hbS,_,_,_,c0,c1,c2⟩,_⟩:=hat1
   have hxr:b < wr.heap.size:=ltq (HS.out _ hbS) hb.out.size
   have hlt':(k:Int) < (m:Int):=by omega
   have hge:(0:Int)≤(k:Int):=by omega
   simp only at c0 c1 c2
   have HC:=hdq (HA.out k a0 a1 a2 ar hd.1 wr hb.out)
   have HST:=hdq (hall.out.trans (allAr_step hd))
   have HB:=hdq hb.out
   clear hd hat hall hb hbS
   go_wp2_with fail
   refine HC.out.mono ?_
   rintro _ w1 ⟨rfl,hb1⟩
   have HB1:=hdq (HB.out.trans hb1)
   clear hb1 c0 c1 c2
   cases hp:p a0 a1 a2
   ·have HF:=hdq (show allAr p xs=false from by rw[HST.out,hp];rfl)
    clear hp HST
    go_wp2_with fail
    go_ret
    exact⟨k,by rw[HF.out];simp,rfl,HB1.out⟩
   ·have HN:=hdq (show allAr p xs=allAr p (xs.drop (k+1))from by rw[HST.out,hp];rfl)
    clear hp HST
    go_wp2_with fail
    go_roundw
    case rel=>exact⟨k+1,by omega,by go_num,HB1.out,HN⟩
    case measure=>simp[intOf];omega
  ·have HF:=hdq (show allAr p xs=true from by rw[hall.out,List.drop_eq_nil_of_le (by rw[←HM.out];omega)];rfl)
   have HB:=hdq hb.out
   clear hall hb
   go_wp2_with fail
   go_ret
   exact⟨-1,by rw[HF.out];simp,rfl,HB.out⟩
theorem conAr (p:ByteArray→Int→Int→Bool) (xs:List Arr) (A:Option Addr) (c:Nat) (g:Nat) (cap:Array Value) (w:World) (S:Nat→Prop) (Z:Prop) (hS:∀b,S b→b < w.heap.size) (hx:SlR (fun b o=>ArR w S Z xs b o) xs.length 32 A c) (hent:Enters Tryz.prog g) (hask:AskAr g cap w S Z (fun a0 a1 a2=> !(p a0 a1 a2)) xs):
  Calls Tryz.prog 172 #[.slice A xs.length c,.func (.func g) #[] cap] w (EqPost (!(allAr p xs)) w):=by
 have HC:=hdq (idxAr p xs A c g cap w S Z hS hx hent hask)
 clear hask hent hx hS
 go_enter Tryz.func172,Tryz.ntmps172
 go_wp2_with fail
 refine HC.out.mono ?_
 rintro e w1 ⟨n,hn,rfl,hb⟩
 have HN:=hdq hn
 have HB:=hdq hb
 clear hn hb
 go_wp2_with fail
 go_ret
 exact⟨by rw[←HN.out];rfl,HB.out⟩
theorem clAr (p:ByteArray→Int→Int→Bool) (xs:List Arr) (g:Nat) (cap:Array Value) (w:World) (S:Nat→Prop) (Z:Prop) (hS:∀b,S b→b < w.heap.size) (B:Nat) (hbk:Bk w B 214 #[.func (.func g) #[] cap]) (hent:Enters Tryz.prog g) (hask:AskAr g cap w S Z p xs):AskAr 173 #[.pointer (some ⟨B,0,none⟩)] w S Z (fun a0 a1 a2=> !(p a0 a1 a2)) xs:=by
 intro i a0 a1 a2 ar hd W hw
 have hw1:Fr NoT W (W.alloc (.cells #[.string a0,.int .i64 a1,.int .i64 a2] 61)):=(Fr.refl _ _).alloc _
 have HC:=hdq (hask i a0 a1 a2 ar hd _ (hw.trans hw1))
 have hb:=hbk.fr0 hw
 have c0:=hb.cell 0
 have hl:=hb.lt
 simp only[List.getElem?_toArray,List.getElem?_cons_zero]at c0
 have HW1:=hdq hw1
 clear hask hd hw hw1 hS hbk hb
 unfold Enters at hent
 go_enter Tryz.func173,Tryz.ntmps173
 go_wp2_with fail
 refine HC.out.mono ?_
 rintro _ w1 ⟨rfl,hb⟩
 have HB:=hdq (HW1.out.trans hb)
 clear hb
 go_wp2_with fail
 go_ret
 exact⟨rfl,HB.out⟩
theorem allAr_any (p:ByteArray→Int→Int→Bool) (xs:List Arr) (A:Option Addr) (c:Nat) (g:Nat) (cap:Array Value) (w:World) (S:Nat→Prop) (Z:Prop) (hS:∀b,S b→b < w.heap.size) (hx:SlR (fun b o=>ArR w S Z xs b o) xs.length 32 A c) (hent:Enters Tryz.prog g) (hask:AskAr g cap w S Z p xs):
  Calls Tryz.prog 95 #[.slice A xs.length c,.func (.func g) #[] cap] w (EqPost (allAr p xs) w):=by
 have hmf:= @makeF Tryz.prog
 have hw1:Fr NoT w (w.alloc (.cells #[.func (.func g) #[] cap] 214)):=(Fr.refl _ _).alloc _
 have hS1:∀b,S b→b < (w.alloc (.cells #[.func (.func g) #[] cap] 214)).heap.size :=fun b hb=>ltq (hS b hb) hw1.size
 have HC:=hdq (conAr p xs A c 173 #[.pointer (some ⟨w.heap.size,0,none⟩)] _ S Z hS1 (hx.imp fun _ _ hx=>ArR.keep (hw1.same fun b hb=>⟨hS b hb,id⟩) hx) (enters_of Tryz.func173 (by kernel_rfl) rfl)
  (clAr p xs g cap _ S Z hS1 w.heap.size (Bk.new _ _ _) hent (hask.next hw1)))
 have HW1:=hdq hw1
 clear hask hent hx hS hS1 hw1
 go_enter Tryz.func95,Tryz.ntmps95
 go_wp2_with fail
 refine HC.out.mono ?_
 rintro _ w1 ⟨rfl,hb⟩
 have HB:=hdq (HW1.out.trans hb)
 clear hb
 go_wp2_with fail
 go_ret
 exact⟨by simp,HB.out⟩

def allPr (p:ByteArray→(List Va)→Sts→Int→Bool) (xs:List Prc):Bool:=xs.all fun x=>p x.nm x.params x.body x.at_
theorem allPr_step {p:ByteArray→(List Va)→Sts→Int→Bool} {xs:List Prc} {i:Nat} {a0 a1 a2 a3 ar} (hd:xs.drop i=(⟨a0,a1,a2,a3⟩:Prc)::ar∧xs.drop (i+1)=ar):allPr p (xs.drop i)=(p a0 a1 a2 a3&&allPr p (xs.drop (i+1))):=by
 rw[hd.1,hd.2];rfl
def AskPr (g:Nat) (cap:Array Value) (w:World) (S:Nat→Prop) (Z:Prop) (p:ByteArray→(List Va)→Sts→Int→Bool) (xs:List Prc):Prop:=
 ∀(i:Nat) (a0:ByteArray) (a1:List Va) (a2:Sts) (a3:Int) (ar:List Prc),xs.drop i=(⟨a0,a1,a2,a3⟩:Prc)::ar→∀(W:World) (A1:Option Addr) (q1:Nat) (A2:Option Addr) (q2:Nat),Fr NoT w W→SlR (fun b o=>VaR W S Z a1 b o) a1.length 24 A1 q1→SlR (fun b o=>StR W S Z a2 b o) a2.len 128 A2 q2→Calls Tryz.prog g (#[.agg #[.string a0,.slice A1 a1.length q1,.slice A2 a2.len q2,.int .i64 a3]]++cap) W (EqPost (p a0 a1 a2 a3) W)
theorem AskPr.next {g:Nat} {cap:Array Value} {w w1:World} {S:Nat→Prop} {Z:Prop} {p:ByteArray→(List Va)→Sts→Int→Bool} {xs:List Prc} (h:AskPr g cap w S Z p xs) (hf:Fr NoT w w1):AskPr g cap w1 S Z p xs:=
 fun i a0 a1 a2 a3 ar hd W A1 q1 A2 q2 hw s1 s2=>h i a0 a1 a2 a3 ar hd W A1 q1 A2 q2 (hf.trans hw) s1 s2
theorem idxPr (p:ByteArray→(List Va)→Sts→Int→Bool) (xs:List Prc) (A:Option Addr) (c:Nat) (g:Nat) (cap:Array Value) (w:World) (S:Nat→Prop) (Z:Prop) (hS:∀b,S b→b < w.heap.size) (hx:SlR (fun b o=>PrR w S Z xs b o) xs.length 72 A c) (hent:Enters Tryz.prog g) (hask:AskPr g cap w S Z (fun a0 a1 a2 a3=> !(p a0 a1 a2 a3)) xs):
  Calls Tryz.prog 100 #[.slice A xs.length c,.func (.func g) #[] cap] w (IdxP (!(allPr p xs)) w):=by
 have hl:xs.length≤9223372036854775807:=leq9 hx.1 hx.2.1.1
 have HA:=hdq hask
 have HX:=hdq hx
 have HS:=hdq hS
 obtain⟨m,hm⟩:=nmq xs.length
 rw[←hm]at hl ⊢
 have HM:=hdq hm
 clear hask hx hS hm
 unfold Enters at hent
 go_enter Tryz.func100,Tryz.ntmps100
 go_wp2_with fail
 go_loopw [8] (fun i wr=>∃k:Nat,k≤m∧i= .int .i64 k∧Hid (Fr NoT w wr)∧Hid (allPr p xs=allPr p (xs.drop k))) (fun i _=>m - (intOf i).toNat)
 case atStart=>exact⟨0,Nat.zero_le _,rfl,Fr.refl _ _,rfl⟩
 case round=>
  obtain⟨k,hk,rfl,hb,hall⟩:=hrel
  by_cases hlt:k < m
  ·obtain⟨⟨a0,a1,a2,a3⟩,ar,hd⟩:=drop_head1 (show k < xs.length from by rw[←HM.out];exact hlt)
   obtain⟨b,o,rfl,hat⟩:=HX.out.2.2 (by rw[←HM.out];omega)
   have hat1:=(PrR.keep (hb.out.same fun b hb=>⟨HS.out b hb,id⟩) hat).drop k
   rw[hd.1]at hat1
   obtain⟨⟨hbS,_,_,c0,c3⟩,⟨A1,q1,c1,s1⟩,⟨A2,q2,c2,s2⟩,_⟩:=hat1
   have hxr:b < wr.heap.size:=ltq (HS.out _ hbS) hb.out.size
   have hlt':(k:Int) < (m:Int):=by omega
   have hge:(0:Int)≤(k:Int):=by omega
   simp only at c0 c1 c2 c3 s1 s2
   have HC:=hdq (HA.out k a0 a1 a2 a3 ar hd.1 wr A1 q1 A2 q2 hb.out s1 s2)
   have HST:=hdq (hall.out.trans (allPr_step hd))
   have HB:=hdq hb.out
   clear hd hat hall hb hbS s1 s2
   go_wp2_with fail
   refine HC.out.mono ?_
   rintro _ w1 ⟨rfl,hb1⟩
   have HB1:=hdq (HB.out.trans hb1)
   clear hb1 c0 c1 c2 c3
   cases hp:p a0 a1 a2 a3
   ·have HF:=hdq (show allPr p xs=false from by rw[HST.out,hp];rfl)
    clear hp HST
    go_wp2_with fail
    go_ret
    exact⟨k,by rw[HF.out];simp,rfl,HB1.out⟩
   ·have HN:=hdq (show allPr p xs=allPr p (xs.drop (k+1))from by rw[HST.out,hp];rfl)
    clear hp HST
    go_wp2_with fail
    go_roundw
    case rel=>exact⟨k+1,by omega,by go_num,HB1.out,HN⟩
    case measure=>simp[intOf];omega
  ·have HF:=hdq (show allPr p xs=true from by rw[hall.out,List.drop_eq_nil_of_le (by rw[←HM.out];omega)];rfl)
   have HB:=hdq hb.out
   clear hall hb
   go_wp2_with fail
   go_ret
   exact⟨-1,by rw[HF.out];simp,rfl,HB.out⟩
theorem conPr (p:ByteArray→(List Va)→Sts→Int→Bool) (xs:List Prc) (A:Option Addr) (c:Nat) (g:Nat) (cap:Array Value) (w:World) (S:Nat→Prop) (Z:Prop) (hS:∀b,S b→b < w.heap.size) (hx:SlR (fun b o=>PrR w S Z xs b o) xs.length 72 A c) (hent:Enters Tryz.prog g) (hask:AskPr g cap w S Z (fun a0 a1 a2 a3=> !(p a0 a1 a2 a3)) xs):
  Calls Tryz.prog 50 #[.slice A xs.length c,.func (.func g) #[] cap] w (EqPost (!(allPr p xs)) w):=by
 have HC:=hdq (idxPr p xs A c g cap w S Z hS hx hent hask)
 clear hask hent hx hS
 go_enter Tryz.func50,Tryz.ntmps50
 go_wp2_with fail
 refine HC.out.mono ?_
 rintro e w1 ⟨n,hn,rfl,hb⟩
 have HN:=hdq hn
 have HB:=hdq hb
 clear hn hb
 go_wp2_with fail
 go_ret
 exact⟨by rw[←HN.out];rfl,HB.out⟩
theorem clPr (p:ByteArray→(List Va)→Sts→Int→Bool) (xs:List Prc) (g:Nat) (cap:Array Value) (w:World) (S:Nat→Prop) (Z:Prop) (hS:∀b,S b→b < w.heap.size) (B:Nat) (hbk:Bk w B 144 #[.func (.func g) #[] cap]) (hent:Enters Tryz.prog g) (hask:AskPr g cap w S Z p xs):AskPr 174 #[.pointer (some ⟨B,0,none⟩)] w S Z (fun a0 a1 a2 a3=> !(p a0 a1 a2 a3)) xs:=by
 intro i a0 a1 a2 a3 ar hd W A1 q1 A2 q2 hw s1 s2
 have hw1:Fr NoT W (W.alloc (.cells #[.string a0,.slice A1 a1.length q1,.slice A2 a2.len q2,.int .i64 a3] 63)):=(Fr.refl _ _).alloc _
 have HC:=hdq (hask i a0 a1 a2 a3 ar hd _ A1 q1 A2 q2 (hw.trans hw1) (s1.imp fun _ _ hx=>VaR.keep (hw1.same fun b hb=>⟨ltq (hS b hb) hw.size,id⟩) hx) (s2.imp fun _ _ hx=>StR.keep (hw1.same fun b hb=>⟨ltq (hS b hb) hw.size,id⟩) hx))
 have hb:=hbk.fr0 hw
 have c0:=hb.cell 0
 have hl:=hb.lt
 simp only[List.getElem?_toArray,List.getElem?_cons_zero]at c0
 have HW1:=hdq hw1
 clear hask hd hw hw1 hS hbk hb s1 s2
 unfold Enters at hent
 go_enter Tryz.func174,Tryz.ntmps174
 go_wp2_with fail
 refine HC.out.mono ?_
 rintro _ w1 ⟨rfl,hb⟩
 have HB:=hdq (HW1.out.trans hb)
 clear hb
 go_wp2_with fail
 go_ret
 exact⟨rfl,HB.out⟩
theorem allPr_any (p:ByteArray→(List Va)→Sts→Int→Bool) (xs:List Prc) (A:Option Addr) (c:Nat) (g:Nat) (cap:Array Value) (w:World) (S:Nat→Prop) (Z:Prop) (hS:∀b,S b→b < w.heap.size) (hx:SlR (fun b o=>PrR w S Z xs b o) xs.length 72 A c) (hent:Enters Tryz.prog g) (hask:AskPr g cap w S Z p xs):
  Calls Tryz.prog 97 #[.slice A xs.length c,.func (.func g) #[] cap] w (EqPost (allPr p xs) w):=by
 have hmf:= @makeF Tryz.prog
 have hw1:Fr NoT w (w.alloc (.cells #[.func (.func g) #[] cap] 144)):=(Fr.refl _ _).alloc _
 have hS1:∀b,S b→b < (w.alloc (.cells #[.func (.func g) #[] cap] 144)).heap.size :=fun b hb=>ltq (hS b hb) hw1.size
 have HC:=hdq (conPr p xs A c 174 #[.pointer (some ⟨w.heap.size,0,none⟩)] _ S Z hS1 (hx.imp fun _ _ hx=>PrR.keep (hw1.same fun b hb=>⟨hS b hb,id⟩) hx) (enters_of Tryz.func174 (by kernel_rfl) rfl)
  (clPr p xs g cap _ S Z hS1 w.heap.size (Bk.new _ _ _) hent (hask.next hw1)))
 have HW1:=hdq hw1
 clear hask hent hx hS hS1 hw1
 go_enter Tryz.func97,Tryz.ntmps97
 go_wp2_with fail
 refine HC.out.mono ?_
 rintro _ w1 ⟨rfl,hb⟩
 have HB:=hdq (HW1.out.trans hb)
 clear hb
 go_wp2_with fail
 go_ret
 exact⟨by simp,HB.out⟩

def allEx (p:Int→ByteArray→Int→Exs→Int→Bool):Exs→Bool
 | .nil =>true
 | .cons a0 a1 a2 a3 a4 ar=>p a0 a1 a2 a3 a4&&allEx p ar
theorem allEx_step {p:Int→ByteArray→Int→Exs→Int→Bool} {xs:Exs} {i:Nat} {a0 a1 a2 a3 a4 ar} (hd:Exs.drop i xs= .cons a0 a1 a2 a3 a4 ar):allEx p (Exs.drop i xs)=(p a0 a1 a2 a3 a4&&allEx p (Exs.drop (i+1) xs)):=by
 rw[Exs.drop_succ i xs hd,hd];rfl
def AskEx (g:Nat) (cap:Array Value) (w:World) (S:Nat→Prop) (Z:Prop) (p:Int→ByteArray→Int→Exs→Int→Bool) (xs:Exs):Prop:=
 ∀(i:Nat) (a0:Int) (a1:ByteArray) (a2:Int) (a3:Exs) (a4:Int) (ar:Exs),Exs.drop i xs= .cons a0 a1 a2 a3 a4 ar→in8 a0→in64 a2→∀(W:World) (A3:Option Addr) (q3:Nat),Fr NoT w W→SlR (fun b o=>ExR W S Z a3 b o) a3.len 64 A3 q3→Calls Tryz.prog g (#[.agg #[.int .u8 a0,.string a1,.int .i64 a2,.slice A3 a3.len q3,.int .i64 a4]]++cap) W (EqPost (p a0 a1 a2 a3 a4) W)
theorem AskEx.next {g:Nat} {cap:Array Value} {w w1:World} {S:Nat→Prop} {Z:Prop} {p:Int→ByteArray→Int→Exs→Int→Bool} {xs:Exs} (h:AskEx g cap w S Z p xs) (hf:Fr NoT w w1):AskEx g cap w1 S Z p xs:=
 fun i a0 a1 a2 a3 a4 ar hd r0 r1 W A3 q3 hw s3=>h i a0 a1 a2 a3 a4 ar hd r0 r1 W A3 q3 (hf.trans hw) s3
theorem idxEx (p:Int→ByteArray→Int→Exs→Int→Bool) (xs:Exs) (A:Option Addr) (c:Nat) (g:Nat) (cap:Array Value) (w:World) (S:Nat→Prop) (Z:Prop) (hS:∀b,S b→b < w.heap.size) (hx:SlR (fun b o=>ExR w S Z xs b o) xs.len 64 A c) (hent:Enters Tryz.prog g) (hask:AskEx g cap w S Z (fun a0 a1 a2 a3 a4=> !(p a0 a1 a2 a3 a4)) xs):
  Calls Tryz.prog 215 #[.slice A xs.len c,.func (.func g) #[] cap] w (IdxP (!(allEx p xs)) w):=by
 have hl:xs.len≤9223372036854775807:=leq9 hx.1 hx.2.1.1
 have HA:=hdq hask
 have HX:=hdq hx
 have HS:=hdq hS
 obtain⟨m,hm⟩:=nmq xs.len
 rw[←hm]at hl ⊢
 have HM:=hdq hm
 clear hask hx hS hm
 unfold Enters at hent
 go_enter Tryz.func215,Tryz.ntmps215
 go_wp2_with fail
 go_loopw [8] (fun i wr=>∃k:Nat,k≤m∧i= .int .i64 k∧Hid (Fr NoT w wr)∧Hid (allEx p xs=allEx p (Exs.drop k xs))) (fun i _=>m - (intOf i).toNat)
 case atStart=>exact⟨0,Nat.zero_le _,rfl,Fr.refl _ _,rfl⟩
 case round=>
  obtain⟨k,hk,rfl,hb,hall⟩:=hrel
  by_cases hlt:k < m
  ·obtain⟨a0,a1,a2,a3,a4,ar,hd⟩:=Exs.drop_cons (show k < xs.len from by rw[←HM.out];exact hlt)
   obtain⟨b,o,rfl,hat⟩:=HX.out.2.2 (by rw[←HM.out];omega)
   have hat1:=(ExR.keep (hb.out.same fun b hb=>⟨HS.out b hb,id⟩) hat).drop k
   rw[hd]at hat1
   obtain⟨⟨hbS,_,r0,r1,_,c0,c1,c2,c4⟩,⟨A3,q3,c3,s3⟩,_⟩:=hat1
   have hxr:b < wr.heap.size:=ltq (HS.out _ hbS) hb.out.size
   have hlt':(k:Int) < (m:Int):=by omega
   have hge:(0:Int)≤(k:Int):=by omega
   have HC:=hdq (HA.out k a0 a1 a2 a3 a4 ar hd r0 r1 wr A3 q3 hb.out s3)
   have HST:=hdq (hall.out.trans (allEx_step hd))
   have HB:=hdq hb.out
   clear hd hat hall hb hbS s3 r0 r1
   go_wp2_with fail
   refine HC.out.mono ?_
   rintro _ w1 ⟨rfl,hb1⟩
   have HB1:=hdq (HB.out.trans hb1)
   clear hb1 c0 c1 c2 c3 c4
   cases hp:p a0 a1 a2 a3 a4
   ·have HF:=hdq (show allEx p xs=false from by rw[HST.out,hp];rfl)
    clear hp HST
    go_wp2_with fail
    go_ret
    exact⟨k,by rw[HF.out];simp,rfl,HB1.out⟩
   ·have HN:=hdq (show allEx p xs=allEx p (Exs.drop (k+1) xs)from by rw[HST.out,hp];rfl)
    clear hp HST
    go_wp2_with fail
    go_roundw
    case rel=>exact⟨k+1,by omega,by go_num,HB1.out,HN⟩
    case measure=>simp[intOf];omega
  ·have HF:=hdq (show allEx p xs=true from by rw[hall.out,Exs.drop_nil (by rw[←HM.out];omega)];rfl)
   have HB:=hdq hb.out
   clear hall hb
   go_wp2_with fail
   go_ret
   exact⟨-1,by rw[HF.out];simp,rfl,HB.out⟩
theorem conEx (p:Int→ByteArray→Int→Exs→Int→Bool) (xs:Exs) (A:Option Addr) (c:Nat) (g:Nat) (cap:Array Value) (w:World) (S:Nat→Prop) (Z:Prop) (hS:∀b,S b→b < w.heap.size) (hx:SlR (fun b o=>ExR w S Z xs b o) xs.len 64 A c) (hent:Enters Tryz.prog g) (hask:AskEx g cap w S Z (fun a0 a1 a2 a3 a4=> !(p a0 a1 a2 a3 a4)) xs):
  Calls Tryz.prog 151 #[.slice A xs.len c,.func (.func g) #[] cap] w (EqPost (!(allEx p xs)) w):=by
 have HC:=hdq (idxEx p xs A c g cap w S Z hS hx hent hask)
 clear hask hent hx hS
 go_enter Tryz.func151,Tryz.ntmps151
 go_wp2_with fail
 refine HC.out.mono ?_
 rintro e w1 ⟨n,hn,rfl,hb⟩
 have HN:=hdq hn
 have HB:=hdq hb
 clear hn hb
 go_wp2_with fail
 go_ret
 exact⟨by rw[←HN.out];rfl,HB.out⟩
theorem clEx (p:Int→ByteArray→Int→Exs→Int→Bool) (xs:Exs) (g:Nat) (cap:Array Value) (w:World) (S:Nat→Prop) (Z:Prop) (hS:∀b,S b→b < w.heap.size) (B:Nat) (hbk:Bk w B 259 #[.func (.func g) #[] cap]) (hent:Enters Tryz.prog g) (hask:AskEx g cap w S Z p xs):AskEx 221 #[.pointer (some ⟨B,0,none⟩)] w S Z (fun a0 a1 a2 a3 a4=> !(p a0 a1 a2 a3 a4)) xs:=by
 intro i a0 a1 a2 a3 a4 ar hd r0 r1 W A3 q3 hw s3
 have hw1:Fr NoT W (W.alloc (.cells #[.int .u8 a0,.string a1,.int .i64 a2,.slice A3 a3.len q3,.int .i64 a4] 175)):=(Fr.refl _ _).alloc _
 have HC:=hdq (hask i a0 a1 a2 a3 a4 ar hd r0 r1 _ A3 q3 (hw.trans hw1) (s3.imp fun _ _ hx=>ExR.keep (hw1.same fun b hb=>⟨ltq (hS b hb) hw.size,id⟩) hx))
 have hb:=hbk.fr0 hw
 have c0:=hb.cell 0
 have hl:=hb.lt
 simp only[List.getElem?_toArray,List.getElem?_cons_zero]at c0
 have HW1:=hdq hw1
 clear hask hd hw hw1 hS hbk hb s3 r0 r1
 unfold Enters at hent
 go_enter Tryz.func221,Tryz.ntmps221
 go_wp2_with fail
 refine HC.out.mono ?_
 rintro _ w1 ⟨rfl,hb⟩
 have HB:=hdq (HW1.out.trans hb)
 clear hb
 go_wp2_with fail
 go_ret
 exact⟨rfl,HB.out⟩
theorem allEx_any (p:Int→ByteArray→Int→Exs→Int→Bool) (xs:Exs) (A:Option Addr) (c:Nat) (g:Nat) (cap:Array Value) (w:World) (S:Nat→Prop) (Z:Prop) (hS:∀b,S b→b < w.heap.size) (hx:SlR (fun b o=>ExR w S Z xs b o) xs.len 64 A c) (hent:Enters Tryz.prog g) (hask:AskEx g cap w S Z p xs):
  Calls Tryz.prog 168 #[.slice A xs.len c,.func (.func g) #[] cap] w (EqPost (allEx p xs) w):=by
 have hmf:= @makeF Tryz.prog
 have hw1:Fr NoT w (w.alloc (.cells #[.func (.func g) #[] cap] 259)):=(Fr.refl _ _).alloc _
 have hS1:∀b,S b→b < (w.alloc (.cells #[.func (.func g) #[] cap] 259)).heap.size :=fun b hb=>ltq (hS b hb) hw1.size
 have HC:=hdq (conEx p xs A c 221 #[.pointer (some ⟨w.heap.size,0,none⟩)] _ S Z hS1 (hx.imp fun _ _ hx=>ExR.keep (hw1.same fun b hb=>⟨hS b hb,id⟩) hx) (enters_of Tryz.func221 (by kernel_rfl) rfl)
  (clEx p xs g cap _ S Z hS1 w.heap.size (Bk.new _ _ _) hent (hask.next hw1)))
 have HW1:=hdq hw1
 clear hask hent hx hS hS1 hw1
 go_enter Tryz.func168,Tryz.ntmps168
 go_wp2_with fail
 refine HC.out.mono ?_
 rintro _ w1 ⟨rfl,hb⟩
 have HB:=hdq (HW1.out.trans hb)
 clear hb
 go_wp2_with fail
 go_ret
 exact⟨by simp,HB.out⟩

def allCd (p:Int→Exs→Cds→Int→Bool):Cds→Bool
 | .nil =>true
 | .cons a0 a1 a2 a3 ar=>p a0 a1 a2 a3&&allCd p ar
theorem allCd_step {p:Int→Exs→Cds→Int→Bool} {xs:Cds} {i:Nat} {a0 a1 a2 a3 ar} (hd:Cds.drop i xs= .cons a0 a1 a2 a3 ar):allCd p (Cds.drop i xs)=(p a0 a1 a2 a3&&allCd p (Cds.drop (i+1) xs)):=by
 rw[Cds.drop_succ i xs hd,hd];rfl
def AskCd (g:Nat) (cap:Array Value) (w:World) (S:Nat→Prop) (Z:Prop) (p:Int→Exs→Cds→Int→Bool) (xs:Cds):Prop:=
 ∀(i:Nat) (a0:Int) (a1:Exs) (a2:Cds) (a3:Int) (ar:Cds),Cds.drop i xs= .cons a0 a1 a2 a3 ar→in8 a0→∀(W:World) (A1:Option Addr) (q1:Nat) (A2:Option Addr) (q2:Nat),Fr NoT w W→SlR (fun b o=>ExR W S Z a1 b o) a1.len 64 A1 q1→SlR (fun b o=>CdR W S Z a2 b o) a2.len 64 A2 q2→Calls Tryz.prog g (#[.agg #[.int .u8 a0,.slice A1 a1.len q1,.slice A2 a2.len q2,.int .i64 a3]]++cap) W (EqPost (p a0 a1 a2 a3) W)
theorem AskCd.next {g:Nat} {cap:Array Value} {w w1:World} {S:Nat→Prop} {Z:Prop} {p:Int→Exs→Cds→Int→Bool} {xs:Cds} (h:AskCd g cap w S Z p xs) (hf:Fr NoT w w1):AskCd g cap w1 S Z p xs:=
 fun i a0 a1 a2 a3 ar hd r0 W A1 q1 A2 q2 hw s1 s2=>h i a0 a1 a2 a3 ar hd r0 W A1 q1 A2 q2 (hf.trans hw) s1 s2
theorem idxCd (p:Int→Exs→Cds→Int→Bool) (xs:Cds) (A:Option Addr) (c:Nat) (g:Nat) (cap:Array Value) (w:World) (S:Nat→Prop) (Z:Prop) (hS:∀b,S b→b < w.heap.size) (hx:SlR (fun b o=>CdR w S Z xs b o) xs.len 64 A c) (hent:Enters Tryz.prog g) (hask:AskCd g cap w S Z (fun a0 a1 a2 a3=> !(p a0 a1 a2 a3)) xs):
  Calls Tryz.prog 264 #[.slice A xs.len c,.func (.func g) #[] cap] w (IdxP (!(allCd p xs)) w):=by
 have hl:xs.len≤9223372036854775807:=leq9 hx.1 hx.2.1.1
 have HA:=hdq hask
 have HX:=hdq hx
 have HS:=hdq hS
 obtain⟨m,hm⟩:=nmq xs.len
 rw[←hm]at hl ⊢
 have HM:=hdq hm
 clear hask hx hS hm
 unfold Enters at hent
 go_enter Tryz.func264,Tryz.ntmps264
 go_wp2_with fail
 go_loopw [8] (fun i wr=>∃k:Nat,k≤m∧i= .int .i64 k∧Hid (Fr NoT w wr)∧Hid (allCd p xs=allCd p (Cds.drop k xs))) (fun i _=>m - (intOf i).toNat)
 case atStart=>exact⟨0,Nat.zero_le _,rfl,Fr.refl _ _,rfl⟩
 case round=>
  obtain⟨k,hk,rfl,hb,hall⟩:=hrel
  by_cases hlt:k < m
  ·obtain⟨a0,a1,a2,a3,ar,hd⟩:=Cds.drop_cons (show k < xs.len from by rw[←HM.out];exact hlt)
   obtain⟨b,o,rfl,hat⟩:=HX.out.2.2 (by rw[←HM.out];omega)
   have hat1:=(CdR.keep (hb.out.same fun b hb=>⟨HS.out b hb,id⟩) hat).drop k
   rw[hd]at hat1
   obtain⟨⟨hbS,_,r0,_,c0,c3⟩,⟨A1,q1,c1,s1⟩,⟨A2,q2,c2,s2⟩,_⟩:=hat1
   have hxr:b < wr.heap.size:=ltq (HS.out _ hbS) hb.out.size
   have hlt':(k:Int) < (m:Int):=by omega
   have hge:(0:Int)≤(k:Int):=by omega
   have HC:=hdq (HA.out k a0 a1 a2 a3 ar hd r0 wr A1 q1 A2 q2 hb.out s1 s2)
   have HST:=hdq (hall.out.trans (allCd_step hd))
   have HB:=hdq hb.out
   clear hd hat hall hb hbS s1 s2 r0
   go_wp2_with fail
   refine HC.out.mono ?_
   rintro _ w1 ⟨rfl,hb1⟩
   have HB1:=hdq (HB.out.trans hb1)
   clear hb1 c0 c1 c2 c3
   cases hp:p a0 a1 a2 a3
   ·have HF:=hdq (show allCd p xs=false from by rw[HST.out,hp];rfl)
    clear hp HST
    go_wp2_with fail
    go_ret
    exact⟨k,by rw[HF.out];simp,rfl,HB1.out⟩
   ·have HN:=hdq (show allCd p xs=allCd p (Cds.drop (k+1) xs)from by rw[HST.out,hp];rfl)
    clear hp HST
    go_wp2_with fail
    go_roundw
    case rel=>exact⟨k+1,by omega,by go_num,HB1.out,HN⟩
    case measure=>simp[intOf];omega
  ·have HF:=hdq (show allCd p xs=true from by rw[hall.out,Cds.drop_nil (by rw[←HM.out];omega)];rfl)
   have HB:=hdq hb.out
   clear hall hb
   go_wp2_with fail
   go_ret
   exact⟨-1,by rw[HF.out];simp,rfl,HB.out⟩
theorem conCd (p:Int→Exs→Cds→Int→Bool) (xs:Cds) (A:Option Addr) (c:Nat) (g:Nat) (cap:Array Value) (w:World) (S:Nat→Prop) (Z:Prop) (hS:∀b,S b→b < w.heap.size) (hx:SlR (fun b o=>CdR w S Z xs b o) xs.len 64 A c) (hent:Enters Tryz.prog g) (hask:AskCd g cap w S Z (fun a0 a1 a2 a3=> !(p a0 a1 a2 a3)) xs):
  Calls Tryz.prog 223 #[.slice A xs.len c,.func (.func g) #[] cap] w (EqPost (!(allCd p xs)) w):=by
 have HC:=hdq (idxCd p xs A c g cap w S Z hS hx hent hask)
 clear hask hent hx hS
 go_enter Tryz.func223,Tryz.ntmps223
 go_wp2_with fail
 refine HC.out.mono ?_
 rintro e w1 ⟨n,hn,rfl,hb⟩
 have HN:=hdq hn
 have HB:=hdq hb
 clear hn hb
 go_wp2_with fail
 go_ret
 exact⟨by rw[←HN.out];rfl,HB.out⟩
theorem clCd (p:Int→Exs→Cds→Int→Bool) (xs:Cds) (g:Nat) (cap:Array Value) (w:World) (S:Nat→Prop) (Z:Prop) (hS:∀b,S b→b < w.heap.size) (B:Nat) (hbk:Bk w B 275 #[.func (.func g) #[] cap]) (hent:Enters Tryz.prog g) (hask:AskCd g cap w S Z p xs):AskCd 224 #[.pointer (some ⟨B,0,none⟩)] w S Z (fun a0 a1 a2 a3=> !(p a0 a1 a2 a3)) xs:=by
 intro i a0 a1 a2 a3 ar hd r0 W A1 q1 A2 q2 hw s1 s2
 have hw1:Fr NoT W (W.alloc (.cells #[.int .u8 a0,.slice A1 a1.len q1,.slice A2 a2.len q2,.int .i64 a3] 179)):=(Fr.refl _ _).alloc _
 have HC:=hdq (hask i a0 a1 a2 a3 ar hd r0 _ A1 q1 A2 q2 (hw.trans hw1) (s1.imp fun _ _ hx=>ExR.keep (hw1.same fun b hb=>⟨ltq (hS b hb) hw.size,id⟩) hx) (s2.imp fun _ _ hx=>CdR.keep (hw1.same fun b hb=>⟨ltq (hS b hb) hw.size,id⟩) hx))
 have hb:=hbk.fr0 hw
 have c0:=hb.cell 0
 have hl:=hb.lt
 simp only[List.getElem?_toArray,List.getElem?_cons_zero]at c0
 have HW1:=hdq hw1
 clear hask hd hw hw1 hS hbk hb s1 s2 r0
 unfold Enters at hent
 go_enter Tryz.func224,Tryz.ntmps224
 go_wp2_with fail
 refine HC.out.mono ?_
 rintro _ w1 ⟨rfl,hb⟩
 have HB:=hdq (HW1.out.trans hb)
 clear hb
 go_wp2_with fail
 go_ret
 exact⟨rfl,HB.out⟩
theorem allCd_any (p:Int→Exs→Cds→Int→Bool) (xs:Cds) (A:Option Addr) (c:Nat) (g:Nat) (cap:Array Value) (w:World) (S:Nat→Prop) (Z:Prop) (hS:∀b,S b→b < w.heap.size) (hx:SlR (fun b o=>CdR w S Z xs b o) xs.len 64 A c) (hent:Enters Tryz.prog g) (hask:AskCd g cap w S Z p xs):
  Calls Tryz.prog 170 #[.slice A xs.len c,.func (.func g) #[] cap] w (EqPost (allCd p xs) w):=by
 have hmf:= @makeF Tryz.prog
 have hw1:Fr NoT w (w.alloc (.cells #[.func (.func g) #[] cap] 275)):=(Fr.refl _ _).alloc _
 have hS1:∀b,S b→b < (w.alloc (.cells #[.func (.func g) #[] cap] 275)).heap.size :=fun b hb=>ltq (hS b hb) hw1.size
 have HC:=hdq (conCd p xs A c 224 #[.pointer (some ⟨w.heap.size,0,none⟩)] _ S Z hS1 (hx.imp fun _ _ hx=>CdR.keep (hw1.same fun b hb=>⟨hS b hb,id⟩) hx) (enters_of Tryz.func224 (by kernel_rfl) rfl)
  (clCd p xs g cap _ S Z hS1 w.heap.size (Bk.new _ _ _) hent (hask.next hw1)))
 have HW1:=hdq hw1
 clear hask hent hx hS hS1 hw1
 go_enter Tryz.func170,Tryz.ntmps170
 go_wp2_with fail
 refine HC.out.mono ?_
 rintro _ w1 ⟨rfl,hb⟩
 have HB:=hdq (HW1.out.trans hb)
 clear hb
 go_wp2_with fail
 go_ret
 exact⟨by simp,HB.out⟩

def allSt (p:Int→ByteArray→Exs→Cds→Sts→Sts→Int→Bool):Sts→Bool
 | .nil =>true
 | .cons a0 a1 a2 a3 a4 a5 a6 ar=>p a0 a1 a2 a3 a4 a5 a6&&allSt p ar
theorem allSt_step {p:Int→ByteArray→Exs→Cds→Sts→Sts→Int→Bool} {xs:Sts} {i:Nat} {a0 a1 a2 a3 a4 a5 a6 ar} (hd:Sts.drop i xs= .cons a0 a1 a2 a3 a4 a5 a6 ar):allSt p (Sts.drop i xs)=(p a0 a1 a2 a3 a4 a5 a6&&allSt p (Sts.drop (i+1) xs)):=by
 rw[Sts.drop_succ i xs hd,hd];rfl
def AskSt (g:Nat) (cap:Array Value) (w:World) (S:Nat→Prop) (Z:Prop) (p:Int→ByteArray→Exs→Cds→Sts→Sts→Int→Bool) (xs:Sts):Prop:=
 ∀(i:Nat) (a0:Int) (a1:ByteArray) (a2:Exs) (a3:Cds) (a4:Sts) (a5:Sts) (a6:Int) (ar:Sts),Sts.drop i xs= .cons a0 a1 a2 a3 a4 a5 a6 ar→in8 a0→∀(W:World) (A2:Option Addr) (q2:Nat) (A3:Option Addr) (q3:Nat) (A4:Option Addr) (q4:Nat) (A5:Option Addr) (q5:Nat),Fr NoT w W→SlR (fun b o=>ExR W S Z a2 b o) a2.len 64 A2 q2→SlR (fun b o=>CdR W S Z a3 b o) a3.len 64 A3 q3→SlR (fun b o=>StR W S Z a4 b o) a4.len 128 A4 q4→SlR (fun b o=>StR W S Z a5 b o) a5.len 128 A5 q5→Calls Tryz.prog g (#[.agg #[.int .u8 a0,.string a1,.slice A2 a2.len q2,.slice A3 a3.len q3,.slice A4 a4.len q4,.slice A5 a5.len q5,.int .i64 a6]]++cap) W (EqPost (p a0 a1 a2 a3 a4 a5 a6) W)
theorem AskSt.next {g:Nat} {cap:Array Value} {w w1:World} {S:Nat→Prop} {Z:Prop} {p:Int→ByteArray→Exs→Cds→Sts→Sts→Int→Bool} {xs:Sts} (h:AskSt g cap w S Z p xs) (hf:Fr NoT w w1):AskSt g cap w1 S Z p xs:=
 fun i a0 a1 a2 a3 a4 a5 a6 ar hd r0 W A2 q2 A3 q3 A4 q4 A5 q5 hw s2 s3 s4 s5=>h i a0 a1 a2 a3 a4 a5 a6 ar hd r0 W A2 q2 A3 q3 A4 q4 A5 q5 (hf.trans hw) s2 s3 s4 s5
theorem idxSt (p:Int→ByteArray→Exs→Cds→Sts→Sts→Int→Bool) (xs:Sts) (A:Option Addr) (c:Nat) (g:Nat) (cap:Array Value) (w:World) (S:Nat→Prop) (Z:Prop) (hS:∀b,S b→b < w.heap.size) (hx:SlR (fun b o=>StR w S Z xs b o) xs.len 128 A c) (hent:Enters Tryz.prog g) (hask:AskSt g cap w S Z (fun a0 a1 a2 a3 a4 a5 a6=> !(p a0 a1 a2 a3 a4 a5 a6)) xs):
  Calls Tryz.prog 220 #[.slice A xs.len c,.func (.func g) #[] cap] w (IdxP (!(allSt p xs)) w):=by
 have hl:xs.len≤9223372036854775807:=leq9 hx.1 hx.2.1.1
 have HA:=hdq hask
 have HX:=hdq hx
 have HS:=hdq hS
 obtain⟨m,hm⟩:=nmq xs.len
 rw[←hm]at hl ⊢
 have HM:=hdq hm
 clear hask hx hS hm
 unfold Enters at hent
 go_enter Tryz.func220,Tryz.ntmps220
 go_wp2_with fail
 go_loopw [8] (fun i wr=>∃k:Nat,k≤m∧i= .int .i64 k∧Hid (Fr NoT w wr)∧Hid (allSt p xs=allSt p (Sts.drop k xs))) (fun i _=>m - (intOf i).toNat)
 case atStart=>exact⟨0,Nat.zero_le _,rfl,Fr.refl _ _,rfl⟩
 case round=>
  obtain⟨k,hk,rfl,hb,hall⟩:=hrel
  by_cases hlt:k < m
  ·obtain⟨a0,a1,a2,a3,a4,a5,a6,ar,hd⟩:=Sts.drop_cons (show k < xs.len from by rw[←HM.out];exact hlt)
   obtain⟨b,o,rfl,hat⟩:=HX.out.2.2 (by rw[←HM.out];omega)
   have hat1:=(StR.keep (hb.out.same fun b hb=>⟨HS.out b hb,id⟩) hat).drop k
   rw[hd]at hat1
   obtain⟨⟨hbS,_,r0,_,c0,c1,c6⟩,⟨A2,q2,c2,s2⟩,⟨A3,q3,c3,s3⟩,⟨A4,q4,c4,s4⟩,⟨A5,q5,c5,s5⟩,_⟩:=hat1
   have hxr:b < wr.heap.size:=ltq (HS.out _ hbS) hb.out.size
   have hlt':(k:Int) < (m:Int):=by omega
   have hge:(0:Int)≤(k:Int):=by omega
   have HC:=hdq (HA.out k a0 a1 a2 a3 a4 a5 a6 ar hd r0 wr A2 q2 A3 q3 A4 q4 A5 q5 hb.out s2 s3 s4 s5)
   have HST:=hdq (hall.out.trans (allSt_step hd))
   have HB:=hdq hb.out
   clear hd hat hall hb hbS s2 s3 s4 s5 r0
   go_wp2_with fail
   refine HC.out.mono ?_
   rintro _ w1 ⟨rfl,hb1⟩
   have HB1:=hdq (HB.out.trans hb1)
   clear hb1 c0 c1 c2 c3 c4 c5 c6
   cases hp:p a0 a1 a2 a3 a4 a5 a6
   ·have HF:=hdq (show allSt p xs=false from by rw[HST.out,hp];rfl)
    clear hp HST
    go_wp2_with fail
    go_ret
    exact⟨k,by rw[HF.out];simp,rfl,HB1.out⟩
   ·have HN:=hdq (show allSt p xs=allSt p (Sts.drop (k+1) xs)from by rw[HST.out,hp];rfl)
    clear hp HST
    go_wp2_with fail
    go_roundw
    case rel=>exact⟨k+1,by omega,by go_num,HB1.out,HN⟩
    case measure=>simp[intOf];omega
  ·have HF:=hdq (show allSt p xs=true from by rw[hall.out,Sts.drop_nil (by rw[←HM.out];omega)];rfl)
   have HB:=hdq hb.out
   clear hall hb
   go_wp2_with fail
   go_ret
   exact⟨-1,by rw[HF.out];simp,rfl,HB.out⟩
theorem conSt (p:Int→ByteArray→Exs→Cds→Sts→Sts→Int→Bool) (xs:Sts) (A:Option Addr) (c:Nat) (g:Nat) (cap:Array Value) (w:World) (S:Nat→Prop) (Z:Prop) (hS:∀b,S b→b < w.heap.size) (hx:SlR (fun b o=>StR w S Z xs b o) xs.len 128 A c) (hent:Enters Tryz.prog g) (hask:AskSt g cap w S Z (fun a0 a1 a2 a3 a4 a5 a6=> !(p a0 a1 a2 a3 a4 a5 a6)) xs):
  Calls Tryz.prog 164 #[.slice A xs.len c,.func (.func g) #[] cap] w (EqPost (!(allSt p xs)) w):=by
 have HC:=hdq (idxSt p xs A c g cap w S Z hS hx hent hask)
 clear hask hent hx hS
 go_enter Tryz.func164,Tryz.ntmps164
 go_wp2_with fail
 refine HC.out.mono ?_
 rintro e w1 ⟨n,hn,rfl,hb⟩
 have HN:=hdq hn
 have HB:=hdq hb
 clear hn hb
 go_wp2_with fail
 go_ret
 exact⟨by rw[←HN.out];rfl,HB.out⟩
theorem clSt (p:Int→ByteArray→Exs→Cds→Sts→Sts→Int→Bool) (xs:Sts) (g:Nat) (cap:Array Value) (w:World) (S:Nat→Prop) (Z:Prop) (hS:∀b,S b→b < w.heap.size) (B:Nat) (hbk:Bk w B 212 #[.func (.func g) #[] cap]) (hent:Enters Tryz.prog g) (hask:AskSt g cap w S Z p xs):AskSt 165 #[.pointer (some ⟨B,0,none⟩)] w S Z (fun a0 a1 a2 a3 a4 a5 a6=> !(p a0 a1 a2 a3 a4 a5 a6)) xs:=by
 intro i a0 a1 a2 a3 a4 a5 a6 ar hd r0 W A2 q2 A3 q3 A4 q4 A5 q5 hw s2 s3 s4 s5
 have hw1:Fr NoT W (W.alloc (.cells #[.int .u8 a0,.string a1,.slice A2 a2.len q2,.slice A3 a3.len q3,.slice A4 a4.len q4,.slice A5 a5.len q5,.int .i64 a6] 51)):=(Fr.refl _ _).alloc _
 have HC:=hdq (hask i a0 a1 a2 a3 a4 a5 a6 ar hd r0 _ A2 q2 A3 q3 A4 q4 A5 q5 (hw.trans hw1) (s2.imp fun _ _ hx=>ExR.keep (hw1.same fun b hb=>⟨ltq (hS b hb) hw.size,id⟩) hx) (s3.imp fun _ _ hx=>CdR.keep (hw1.same fun b hb=>⟨ltq (hS b hb) hw.size,id⟩) hx) (s4.imp fun _ _ hx=>StR.keep (hw1.same fun b hb=>⟨ltq (hS b hb) hw.size,id⟩) hx) (s5.imp fun _ _ hx=>StR.keep (hw1.same fun b hb=>⟨ltq (hS b hb) hw.size,id⟩) hx))
 have hb:=hbk.fr0 hw
 have c0:=hb.cell 0
 have hl:=hb.lt
 simp only[List.getElem?_toArray,List.getElem?_cons_zero]at c0
 have HW1:=hdq hw1
 clear hask hd hw hw1 hS hbk hb s2 s3 s4 s5 r0
 unfold Enters at hent
 go_enter Tryz.func165,Tryz.ntmps165
 go_wp2_with fail
 refine HC.out.mono ?_
 rintro _ w1 ⟨rfl,hb⟩
 have HB:=hdq (HW1.out.trans hb)
 clear hb
 go_wp2_with fail
 go_ret
 exact⟨rfl,HB.out⟩
theorem allSt_any (p:Int→ByteArray→Exs→Cds→Sts→Sts→Int→Bool) (xs:Sts) (A:Option Addr) (c:Nat) (g:Nat) (cap:Array Value) (w:World) (S:Nat→Prop) (Z:Prop) (hS:∀b,S b→b < w.heap.size) (hx:SlR (fun b o=>StR w S Z xs b o) xs.len 128 A c) (hent:Enters Tryz.prog g) (hask:AskSt g cap w S Z p xs):
  Calls Tryz.prog 93 #[.slice A xs.len c,.func (.func g) #[] cap] w (EqPost (allSt p xs) w):=by
 have hmf:= @makeF Tryz.prog
 have hw1:Fr NoT w (w.alloc (.cells #[.func (.func g) #[] cap] 212)):=(Fr.refl _ _).alloc _
 have hS1:∀b,S b→b < (w.alloc (.cells #[.func (.func g) #[] cap] 212)).heap.size :=fun b hb=>ltq (hS b hb) hw1.size
 have HC:=hdq (conSt p xs A c 165 #[.pointer (some ⟨w.heap.size,0,none⟩)] _ S Z hS1 (hx.imp fun _ _ hx=>StR.keep (hw1.same fun b hb=>⟨hS b hb,id⟩) hx) (enters_of Tryz.func165 (by kernel_rfl) rfl)
  (clSt p xs g cap _ S Z hS1 w.heap.size (Bk.new _ _ _) hent (hask.next hw1)))
 have HW1:=hdq hw1
 clear hask hent hx hS hS1 hw1
 go_enter Tryz.func93,Tryz.ntmps93
 go_wp2_with fail
 refine HC.out.mono ?_
 rintro _ w1 ⟨rfl,hb⟩
 have HB:=hdq (HW1.out.trans hb)
 clear hb
 go_wp2_with fail
 go_ret
 exact⟨by simp,HB.out⟩
end Go.Proofs.YtfomomaomggpbaaGreatDoor
