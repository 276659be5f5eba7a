/-
  Plain law on numbers of 64 bits: what an operation gives, and what goes wrong. No program is in sight but for 'wrap64'.
-/
import Derived.WalkKit
import Derived.Test.YtobegfbdedgmpaaGreatDoorRows
import Derived.WalkSpells
import Derived.WalkLawsBesides
import Derived.Lib.Hide
import Derived.Deep.QuietTactic
import Derived.BigQuiet
import Derived.Laws.EntriesVeiled
set_option linter.unusedVariables false
set_option linter.unusedSimpArgs false
namespace Go.Proofs.YtobegfbdedgmpaaGreatDoor
open Go.RowKit

def okR (b:Bool) (n:Int):Int:=if b then n else 0
def okW (b:Bool):Int:=if b then 0 else 2

def fits64 (n:Int):Bool:=decide (-9223372036854775808≤n∧n≤9223372036854775807)

def opR (k a b:Int):Int:=
 if k=4 then okR (fits64 (-a)) (-a)
 else if k=5 then okR (fits64 (a+b)) (a+b)
 else if k=6 then okR (fits64 (a - b)) (a - b)
 else if k=7 then okR (fits64 (a*b)) (a*b)
 else if k=8 then(if b=0 then 0 else okR (fits64 (a.tdiv b)) (a.tdiv b))
 else if k=9 then(if b=0 then 0 else a.tmod b)
 else if k=10 then(if b < 0∨63 < b then 0 else okR (fits64 (a*2 ^ b.toNat)) (a*2 ^ b.toNat))
 else(if b < 0∨63 < b then 0 else a / 2 ^ b.toNat)
def opW (k a b:Int):Int:=
 if k=4 then okW (fits64 (-a))
 else if k=5 then okW (fits64 (a+b))
 else if k=6 then okW (fits64 (a - b))
 else if k=7 then okW (fits64 (a*b))
 else if k=8 then(if b=0 then 3 else okW (fits64 (a.tdiv b)))
 else if k=9 then(if b=0 then 3 else 0)
 else if k=10 then(if b < 0∨63 < b then 4 else okW (fits64 (a*2 ^ b.toNat)))
 else(if b < 0∨63 < b then 4 else 0)

def is64 (n:Int):Prop:= -9223372036854775808≤n∧n≤9223372036854775807

theorem okR_congr {b c:Bool} {m n:Int} (h:b=c) (hn:c=true→m=n):okR b m=okR c n:=by
 subst h
 cases b
 ·rfl
 ·simp[okR,hn rfl]

theorem neg_b (a:Int) (ha:is64 a):(a != -9223372036854775808)=fits64 (-a):=by
 unfold is64 at ha
 rw[Bool.eq_iff_iff]
 simp[fits64]
 omega
theorem wrap_fit (n:Int) (h:fits64 n=true):wrap64 n=n:=by
 simp[fits64]at h
 unfold wrap64
 omega
theorem add_b (a b:Int) (ha:is64 a) (hb:is64 b):(decide (wrap64 (a+b) < a)==decide (b < 0))=fits64 (a+b):=by
 unfold is64 at ha hb
 rw[Bool.eq_iff_iff]
 unfold wrap64 fits64
 simp only[beq_iff_eq,decide_eq_decide,decide_eq_true_eq]
 omega
theorem sub_b (a b:Int) (ha:is64 a) (hb:is64 b):(decide (a < wrap64 (a - b))==decide (b < 0))=fits64 (a - b):=by
 unfold is64 at ha hb
 rw[Bool.eq_iff_iff]
 unfold wrap64 fits64
 simp only[beq_iff_eq,decide_eq_decide,decide_eq_true_eq]
 omega
end Go.Proofs.YtobegfbdedgmpaaGreatDoor
namespace Go.Proofs.YtobegfbdedgmpaaGreatDoor
open Go.RowKit
theorem ret_ok {b:Bool} {X n:Int} (h:b=fits64 n) (hx:fits64 n=true→X=n):
  Ending.returned (.tuple #[.int .i64 (okR b X),.int .u8 (okW b)])=Ending.returned (.tuple #[.int .i64 (okR (fits64 n) n),.int .u8 (okW (fits64 n))]):=by
 rw[h,okR_congr (b:=fits64 n) rfl hx]

theorem fits_of {n:Int} (h:is64 n):fits64 n=true:=by simpa[fits64,is64]using h
theorem pow_pos2 (n:Nat):(0:Int) < 2 ^ n:=Int.pow_pos (by omega)
theorem pow_dvd64 (n:Nat) (h:n≤63):∃k:Int,(18446744073709551616:Int)=k*2 ^ n:=by
 refine⟨2 ^ (64 - n),?_⟩
 rw[←Int.pow_add,show 64 - n+n=64 from by omega]
 decide
theorem wrap_cong (x:Int):∃k:Int,wrap64 x=x+k*18446744073709551616:=by
 refine⟨-((x+9223372036854775808) / 18446744073709551616),?_⟩
 unfold wrap64
 omega
theorem wrap_is64 (x:Int):is64 (wrap64 x):=by
 unfold wrap64 is64
 omega
theorem shl_b (a b:Int) (h0:0≤b) (h1:b≤63):(wrap64 (a*2 ^ b.toNat) / 2 ^ b.toNat==a)=fits64 (a*2 ^ b.toNat):=by
 have hp:=pow_pos2 b.toNat
 rw[Bool.eq_iff_iff]
 constructor
 ·intro h
  have h:=eq_of_beq h
  obtain⟨k,hk⟩:=wrap_cong (a*2 ^ b.toNat)
  obtain⟨m,hm⟩:=pow_dvd64 b.toNat (by omega)
  have hw:=wrap_is64 (a*2 ^ b.toNat)
  have e:wrap64 (a*2 ^ b.toNat)=(a+k*m)*2 ^ b.toNat:=by
   rw[hk,hm,Int.add_mul,Int.mul_assoc]
  rw[e,Int.mul_ediv_cancel _ (by omega)]at h
  have e2:wrap64 (a*2 ^ b.toNat)=a*2 ^ b.toNat:=by rw[e,h]
  rw[e2]at hw
  exact fits_of hw
 ·intro h
  rw[wrap_fit _ h,Int.mul_ediv_cancel _ (by omega)]
  simp
theorem tdiv_small (n b:Int) (hn:is64 n) (h:¬(n= -9223372036854775808∧b= -1)):is64 (n.tdiv b):=by
 unfold is64 at*
 by_cases h0:b=0
 ·subst h0
  simp
 by_cases h1:b=1
 ·subst h1
  simpa using hn
 by_cases h2:b= -1
 ·subst h2
  rw[Int.tdiv_neg,Int.tdiv_one]
  omega
 have hh:(n.tdiv b).natAbs =n.natAbs / b.natAbs:=Int.natAbs_tdiv n b
 have:n.natAbs / b.natAbs≤n.natAbs / 2:=Nat.div_le_div_left (by omega) (by omega)
 omega
theorem wrap_tdiv (n b:Int) (hn:is64 n) (h:¬(n= -9223372036854775808∧b= -1)):wrap64 (n.tdiv b)=n.tdiv b:=
 wrap_fit _ (fits_of (tdiv_small n b hn h))
theorem mul_both (a b:Int) (A B:Int) (h:(A=a∧B=b)∨(A= -a∧B= -b)):A*B=a*b:=by
 rcases h with⟨rfl,rfl⟩|⟨rfl,rfl⟩
 ·rfl
 ·rw[Int.neg_mul_neg]
theorem mul_one (a b:Int) (A B:Int) (h:(A= -a∧B=b)∨(A=a∧B= -b)):A*B= -(a*b):=by
 rcases h with⟨rfl,rfl⟩|⟨rfl,rfl⟩
 ·rw[Int.neg_mul]
 ·rw[Int.mul_neg]
end Go.Proofs.YtobegfbdedgmpaaGreatDoor

namespace Go.Proofs.YtobegfbdedgmpaaGreatDoor
open Go.RowKit

theorem ranged_yes (n:Int) (w:World):Calls Tryz.prog 146 #[.int .i64 n,.bool true] w fun e w'=>e= .returned (.tuple #[.int .i64 n,.int .u8 0])∧w=w':=by
 go_enter Tryz.func146,Tryz.ntmps146
 go_wp2
 go_ret2
 exact⟨rfl,rfl⟩
theorem ranged_no (n:Int) (w:World):Calls Tryz.prog 146 #[.int .i64 n,.bool false] w fun e w'=>e= .returned (.tuple #[.int .i64 0,.int .u8 2])∧w=w':=by
 go_enter Tryz.func146,Tryz.ntmps146
 go_wp2
 go_ret2
 exact⟨rfl,rfl⟩
theorem ranged_any (n:Int) (b:Bool) (w:World):Calls Tryz.prog 146 #[.int .i64 n,.bool b] w fun e w'=>e= .returned (.tuple #[.int .i64 (okR b n),.int .u8 (okW b)])∧w=w':=by
 cases b
 ·exact ranged_no n w
 ·exact ranged_yes n w
end Go.Proofs.YtobegfbdedgmpaaGreatDoor
