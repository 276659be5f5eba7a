import Derived.Test.YtobegfbdedgmpaaGreatDoorJnOpA
import Derived.Shelf.Abstract
set_option linter.unusedVariables false
set_option linter.unusedSimpArgs false
namespace Go.Proofs.YtobegfbdedgmpaaGreatDoor
open Go.RowKit Go.Shelf

def zlQ:Value:= .agg #[.nilFunc,.nilFunc,.nilFunc,.nilFunc,.func (.func 145) #[] #[],.func (.func 147) #[] #[],.func (.func 148) #[] #[],.func (.func 149) #[] #[],.func (.func 150) #[] #[],.func (.func 152) #[] #[],.func (.func 153) #[] #[],.func (.func 156) #[] #[]]
theorem znx (w:World):Calls Tryz.prog 80 #[] w fun e w'=>e= .returned zlQ∧Below w.heap.size w w':=by
 go_enter Tryz.func80,Tryz.ntmps80
 go_wp2
 exact bodyPost_ret (v:=zlQ) (by simp[zlQ,results,Tryz.results80,go_sem]) rfl ⟨rfl,(Below.refl _ _).alloc (Nat.le_refl _) _⟩
theorem za2 (k a b:Int) (g:Nat) (n r:Int) (w:World) (h0:4≤k) (h1:k≤11)
  (hidx:∀w,(Instr.index 162 zlQ (.int .u8 k)).run Tryz.prog w= .ok (.func (.func g) #[] #[]) w)
  (hent:∀(args:Array Value) (w:World),(callFunc g args).run Tryz.prog w= .ok (.enter g args) w)
  (hg:∀w,Calls Tryz.prog g #[.int .i64 a,.int .i64 b] w fun e w'=>e= .returned (.tuple #[.int .i64 n,.int .u8 r])∧Below w.heap.size w w'):
  Calls Tryz.prog 27 #[.int .u8 k,.int .i64 a,.int .i64 b] w fun e w'=>e= .returned (.tuple #[.int .i64 n,.int .u8 r,.int .i64 0])∧Below w.heap.size w w':=by
 have HG:=Lib.hid hg
 clear hg
 go_enter Tryz.func27,Tryz.ntmps27
 go_wp2_with fail
 refine(znx _).mono ?_
 rintro e w1 ⟨rfl,hb1⟩
 go_wp2_with fail
 refine(HG.out _).mono ?_
 rintro e w2 ⟨rfl,hb2⟩
 go_wp2_with fail
 go_ret3
 exact⟨rfl,hb1.trans (hb2.mono hb1.size)⟩

theorem zkj (k a b:Int) (w:World) (h0:4≤k) (h1:k≤11) (ha:is64 a) (hb:is64 b):
  Calls Tryz.prog 27 #[.int .u8 k,.int .i64 a,.int .i64 b] w fun e w'=>e= .returned (.tuple #[.int .i64 (opR k a b),.int .u8 (opW k a b),.int .i64 0])∧Below w.heap.size w w':=by
 have hk:k=4∨k=5∨k=6∨k=7∨k=8∨k=9∨k=10∨k=11:=by omega
 rcases hk with rfl|rfl|rfl|rfl|rfl|rfl|rfl|rfl
 ·exact za2 4 a b 145 _ _ w h0 h1 (fun _=>by kernel_rfl) (enters_of Tryz.func145 (by kernel_rfl) rfl) fun w=>(znn a b w ha).mono fun _ _ h=>⟨h.1,h.2▸Below.refl _ _⟩
 ·exact za2 5 a b 147 _ _ w h0 h1 (fun _=>by kernel_rfl) (enters_of Tryz.func147 (by kernel_rfl) rfl) fun w=>(zno a b w ha hb).mono fun _ _ h=>⟨h.1,h.2▸Below.refl _ _⟩
 ·exact za2 6 a b 148 _ _ w h0 h1 (fun _=>by kernel_rfl) (enters_of Tryz.func148 (by kernel_rfl) rfl) fun w=>(znp a b w ha hb).mono fun _ _ h=>⟨h.1,h.2▸Below.refl _ _⟩
 ·exact za2 7 a b 149 _ _ w h0 h1 (fun _=>by kernel_rfl) (enters_of Tryz.func149 (by kernel_rfl) rfl) fun w=>(zgG a b w ha hb).mono fun _ _ h=>⟨h.1,h.2▸Below.refl _ _⟩
 ·exact za2 8 a b 150 _ _ w h0 h1 (fun _=>by kernel_rfl) (enters_of Tryz.func150 (by kernel_rfl) rfl) fun w=>znr a b w ha
 ·exact za2 9 a b 152 _ _ w h0 h1 (fun _=>by kernel_rfl) (enters_of Tryz.func152 (by kernel_rfl) rfl) fun w=>zns a b w ha
 ·by_cases h:b < 0∨63 < b
  ·exact za2 10 a b 153 _ _ w h0 h1 (fun _=>by kernel_rfl) (enters_of Tryz.func153 (by kernel_rfl) rfl) fun w=>zoN a b w h
  ·exact za2 10 a b 153 _ _ w h0 h1 (fun _=>by kernel_rfl) (enters_of Tryz.func153 (by kernel_rfl) rfl) fun w=>znv a b w (by omega) (by omega)
 ·by_cases h:b < 0∨63 < b
  ·exact za2 11 a b 156 _ _ w h0 h1 (fun _=>by kernel_rfl) (enters_of Tryz.func156 (by kernel_rfl) rfl) fun w=>zoO a b w h
  ·exact za2 11 a b 156 _ _ w h0 h1 (fun _=>by kernel_rfl) (enters_of Tryz.func156 (by kernel_rfl) rfl) fun w=>znw a b w (by omega) (by omega)
/-! the other text's operations -/

def cmpB (k a b:Int):Bool:=
 if k=3 then decide (a < b)else if k=4 then decide (a≤b)else if k=5 then decide (b < a)else if k=6 then decide (b≤a)else if k=7 then a==b else if k=8 then a != b else false
def cmpE (k:Int):Int:=if 3≤k∧k≤8 then 0 else 2
theorem zgH (k a b:Int) (w:World):
  Calls Tryz.prog 29 #[.int .u8 k,.int .i64 a,.int .i64 b] w fun e w'=>e= .returned (.tuple #[.bool (cmpB k a b),.int .i64 (cmpE k)])∧w=w':=by
 by_cases hk:k=3∨k=4∨k=5∨k=6∨k=7∨k=8
 ·rcases hk with rfl|rfl|rfl|rfl|rfl|rfl
  all_goals
   go_enter Tryz.func29,Tryz.ntmps29
   go_wp2
   go_ret2
   exact⟨rfl,rfl⟩
 ·have h3:(k==3)=false:=by simp;omega
  have h4:(k==4)=false:=by simp;omega
  have h5:(k==5)=false:=by simp;omega
  have h6:(k==6)=false:=by simp;omega
  have h7:(k==7)=false:=by simp;omega
  have h8:(k==8)=false:=by simp;omega
  have e1:cmpB k 0 0=false∧cmpE k=2:=by
   have:¬(3≤k∧k≤8):=by omega
   unfold cmpB cmpE
   simp at h3 h4 h5 h6 h7 h8
   simp[h3,h4,h5,h6,h7,h8,this]
  have e2:cmpB k a b=false:=by
   unfold cmpB
   simp at h3 h4 h5 h6 h7 h8
   simp[h3,h4,h5,h6,h7,h8]
  rw[e1.2,e2]
  clear e1 e2 hk
  go_enter Tryz.func29,Tryz.ntmps29
  go_wp2
  go_ret2
  exact⟨rfl,rfl⟩
end Go.Proofs.YtobegfbdedgmpaaGreatDoor

