import Derived.Test.YtobegfbdedgmpaaGreatDoorJgSv
import Derived.Test.YtobegfbdedgmpaaGreatDoorShelf
set_option linter.unusedVariables false
set_option linter.unusedSimpArgs false
set_option maxRecDepth 100000
namespace Go.Proofs.YtobegfbdedgmpaaGreatDoor
open Go.RowKit

theorem znn (a b:Int) (w:World) (ha:is64 a):Calls Tryz.prog 145 #[.int .i64 a,.int .i64 b] w fun e w'=>e= .returned (.tuple #[.int .i64 (opR 4 a b),.int .u8 (opW 4 a b)])∧w=w':=by
 have H:=Lib.hid (zek (neg_b a ha) (zb8 (-a)))
 go_enter Tryz.func145,Tryz.ntmps145
 go_wp2_with (go_at_call 146;refine(zaT _ _ _).mono ?_;rintro e w' ⟨rfl,rfl⟩)
 go_ret2
 exact⟨H.out,rfl⟩
theorem zno (a b:Int) (w:World) (ha:is64 a) (hb:is64 b):Calls Tryz.prog 147 #[.int .i64 a,.int .i64 b] w fun e w'=>e= .returned (.tuple #[.int .i64 (opR 5 a b),.int .u8 (opW 5 a b)])∧w=w':=by
 have H:=Lib.hid (zek (add_b a b ha hb) (zb8 (a+b)))
 go_enter Tryz.func147,Tryz.ntmps147
 go_wp2_with (go_at_call 146;refine(zaT _ _ _).mono ?_;rintro e w' ⟨rfl,rfl⟩)
 go_ret2
 exact⟨H.out,rfl⟩
theorem znp (a b:Int) (w:World) (ha:is64 a) (hb:is64 b):Calls Tryz.prog 148 #[.int .i64 a,.int .i64 b] w fun e w'=>e= .returned (.tuple #[.int .i64 (opR 6 a b),.int .u8 (opW 6 a b)])∧w=w':=by
 have H:=Lib.hid (zek (sub_b a b ha hb) (zb8 (a - b)))
 go_enter Tryz.func148,Tryz.ntmps148
 go_wp2_with (go_at_call 146;refine(zaT _ _ _).mono ?_;rintro e w' ⟨rfl,rfl⟩)
 go_ret2
 exact⟨H.out,rfl⟩

theorem zkd (x y:Int) (w:World) (hx:0≤x) (hy:0≤y) (hx2:x < 18446744073709551616) (hy2:y < 18446744073709551616):
  Calls Tryz.prog 212 #[.int .u64 x,.int .u64 y] w fun e w'=>e= .returned (.tuple #[.int .u64 (x*y / 18446744073709551616),.int .u64 (x*y % 18446744073709551616)])∧w=w':=by
 obtain⟨m,rfl⟩:=Int.eq_ofNat_of_zero_le hx
 obtain⟨n,rfl⟩:=Int.eq_ofNat_of_zero_le hy
 exact(Tryz.bits_Mul64 m n (by omega) (by omega) w).mono fun _ _ h=>⟨by rw[h.1];simp,h.2.symm⟩
theorem zke (a:Int) (w:World):Calls Tryz.prog 211 #[.int .i64 a] w fun e w'=>e= .returned (.int .u64 (if a < 0 then IntKind.u64.wrap (-IntKind.u64.wrap a)else IntKind.u64.wrap a))∧w=w':=by
 by_cases h:a < 0
 ·go_enter Tryz.func211,Tryz.ntmps211
  go_wp2
  go_ret
  exact⟨by simp[h],rfl⟩
 ·go_enter Tryz.func211,Tryz.ntmps211
  go_wp2
  go_ret
  exact⟨by simp[h],rfl⟩
theorem zcG (a:Int) (w:World) (ha:is64 a):Calls Tryz.prog 211 #[.int .i64 a] w fun e w'=>e= .returned (.int .u64 (a.natAbs:Int))∧w=w':=by
 refine(zke a w).mono fun _ _ h=>⟨?_,h.2⟩
 rw[h.1]
 unfold is64 at ha
 congr 2
 split<;>simp[IntKind.wrap,IntKind.min,IntKind.max,IntKind.signed,IntKind.bits]<;>omega

def hi64 (p:Int):Int:=p / 18446744073709551616
def lo64 (p:Int):Int:=p % 18446744073709551616
theorem zhk (x y:Int) (w:World) (hx:0≤x) (hy:0≤y) (hx2:x < 18446744073709551616) (hy2:y < 18446744073709551616):
  Calls Tryz.prog 212 #[.int .u64 x,.int .u64 y] w fun e w'=>e= .returned (.tuple #[.int .u64 (hi64 (x*y)),.int .u64 (lo64 (x*y))])∧w=w':=zkd x y w hx hy hx2 hy2

theorem zkf (p n:Int) (h:p=n) (hp:0≤p):(if hi64 p=0 then decide (lo64 p < 9223372036854775808)else false)=zah n:=by
 subst h
 unfold zah hi64 lo64
 rw[Bool.eq_iff_iff]
 split<;>simp<;>omega
theorem zlO (p n:Int) (h:p= -n) (hp:0≤p):(if hi64 p=0 then decide (lo64 p≤9223372036854775808)else false)=zah n:=by
 unfold zah hi64 lo64
 rw[Bool.eq_iff_iff]
 split<;>simp<;>omega
theorem zlP (p n:Int) (h:p=n) (hp:0≤p) (hf:zah n=true):wrap64 (lo64 p)=n:=by
 subst h
 simp[zah]at hf
 unfold wrap64 lo64
 omega
theorem znq (p n:Int) (h:p= -n) (hp:0≤p) (hf:zah n=true):wrap64 (IntKind.u64.wrap (-lo64 p))=n:=by
 simp[zah]at hf
 simp[IntKind.wrap,IntKind.min,IntKind.max,IntKind.signed,IntKind.bits]
 unfold wrap64 lo64
 omega
theorem zip (a b:Int) (w:World) (ha:is64 a) (hb:is64 b) (h:decide (a < 0)=decide (b < 0)):Calls Tryz.prog 149 #[.int .i64 a,.int .i64 b] w fun e w'=>e= .returned (.tuple #[.int .i64 (opR 7 a b),.int .u8 (opW 7 a b)])∧w=w':=by
 have hA:0≤(a.natAbs:Int)∧(a.natAbs:Int) < 18446744073709551616:=by unfold is64 at ha;omega
 have hB:0≤(b.natAbs:Int)∧(b.natAbs:Int) < 18446744073709551616:=by unfold is64 at hb;omega
 have hp:0≤(a.natAbs:Int)*(b.natAbs:Int):=Int.mul_nonneg hA.1 hB.1
 have hm:(a.natAbs:Int)*(b.natAbs:Int)=a*b:=zlK a b _ _ (by simp at h;omega)
 have H1:=Lib.hid (zek (zkf _ _ hm hp) (zlP _ _ hm hp))
 have h2:(decide (a < 0)==decide (b < 0))=true:=by simp[h]
 clear hm h
 go_enter Tryz.func149,Tryz.ntmps149
 go_wp2_with fail
 refine(zcG a w ha).mono ?_
 rintro e w' ⟨rfl,rfl⟩
 go_wp2_with fail
 refine(zcG b w hb).mono ?_
 rintro e w' ⟨rfl,rfl⟩
 go_wp2_with fail
 refine(zhk _ _ _ hA.1 hB.1 hA.2 hB.2).mono ?_
 rintro e w' ⟨rfl,rfl⟩
 by_cases h0:hi64 ((a.natAbs:Int)*(b.natAbs:Int))=0
 ·have e0:(hi64 ((a.natAbs:Int)*(b.natAbs:Int))==0)=true:=by simp[h0]
  have h3:=H1.out
  rw[if_pos h0]at h3
  clear h0
  have H2:=Lib.hid h3
  clear h3
  go_wp2_with (go_at_call 146;refine(zaT _ _ _).mono ?_;rintro e w' ⟨rfl,rfl⟩)
  go_ret2
  exact⟨H2.out,rfl⟩
 ·have e0:(hi64 ((a.natAbs:Int)*(b.natAbs:Int))==0)=false:=by simp[h0]
  have h3:=H1.out
  rw[if_neg h0]at h3
  clear h0
  have H2:=Lib.hid h3
  clear h3
  go_wp2_with (go_at_call 146;refine(zaT _ _ _).mono ?_;rintro e w' ⟨rfl,rfl⟩)
  go_ret2
  exact⟨H2.out,rfl⟩
theorem zkg (a b:Int) (w:World) (ha:is64 a) (hb:is64 b) (h:¬decide (a < 0)=decide (b < 0)):Calls Tryz.prog 149 #[.int .i64 a,.int .i64 b] w fun e w'=>e= .returned (.tuple #[.int .i64 (opR 7 a b),.int .u8 (opW 7 a b)])∧w=w':=by
 have hA:0≤(a.natAbs:Int)∧(a.natAbs:Int) < 18446744073709551616:=by unfold is64 at ha;omega
 have hB:0≤(b.natAbs:Int)∧(b.natAbs:Int) < 18446744073709551616:=by unfold is64 at hb;omega
 have hp:0≤(a.natAbs:Int)*(b.natAbs:Int):=Int.mul_nonneg hA.1 hB.1
 have hm:(a.natAbs:Int)*(b.natAbs:Int)= -(a*b):=mul_one a b _ _ (by simp at h;omega)
 have H1:=Lib.hid (zek (zlO _ _ hm hp) (znq _ _ hm hp))
 have h2:(decide (a < 0)==decide (b < 0))=false:=by simpa using h
 clear hm h
 go_enter Tryz.func149,Tryz.ntmps149
 go_wp2_with fail
 refine(zcG a w ha).mono ?_
 rintro e w' ⟨rfl,rfl⟩
 go_wp2_with fail
 refine(zcG b w hb).mono ?_
 rintro e w' ⟨rfl,rfl⟩
 go_wp2_with fail
 refine(zhk _ _ _ hA.1 hB.1 hA.2 hB.2).mono ?_
 rintro e w' ⟨rfl,rfl⟩
 by_cases h0:hi64 ((a.natAbs:Int)*(b.natAbs:Int))=0
 ·have e0:(hi64 ((a.natAbs:Int)*(b.natAbs:Int))==0)=true:=by simp[h0]
  have h3:=H1.out
  rw[if_pos h0]at h3
  clear h0
  have H2:=Lib.hid h3
  clear h3
  go_wp2_with (go_at_call 146;refine(zaT _ _ _).mono ?_;rintro e w' ⟨rfl,rfl⟩)
  go_ret2
  exact⟨H2.out,rfl⟩
 ·have e0:(hi64 ((a.natAbs:Int)*(b.natAbs:Int))==0)=false:=by simp[h0]
  have h3:=H1.out
  rw[if_neg h0]at h3
  clear h0
  have H2:=Lib.hid h3
  clear h3
  go_wp2_with (go_at_call 146;refine(zaT _ _ _).mono ?_;rintro e w' ⟨rfl,rfl⟩)
  go_ret2
  exact⟨H2.out,rfl⟩
theorem zgG (a b:Int) (w:World) (ha:is64 a) (hb:is64 b):Calls Tryz.prog 149 #[.int .i64 a,.int .i64 b] w fun e w'=>e= .returned (.tuple #[.int .i64 (opR 7 a b),.int .u8 (opW 7 a b)])∧w=w':=by
 by_cases h:decide (a < 0)=decide (b < 0)
 ·exact zip a b w ha hb h
 ·exact zkg a b w ha hb h

def divR (a b:Int):Int:=if b=0 then 0 else okR (zah (a.tdiv b)) (a.tdiv b)
def divM (a b:Int):Int:=if b=0 then 0 else if zah (a.tdiv b)then a.tmod b else 0
def divW (a b:Int):Int:=if b=0 then 3 else okW (zah (a.tdiv b))

theorem zkh (a:Int) (w:World):Calls Tryz.prog 151 #[.int .i64 a,.int .i64 0] w fun e w'=>e= .returned (.tuple #[.int .i64 0,.int .i64 0,.int .u8 3])∧Below w.heap.size w w':=by
 go_enter Tryz.func151,Tryz.ntmps151
 go_wp2
 go_ret3
 exact⟨rfl,Below.refl _ _⟩
theorem zki (w:World):Calls Tryz.prog 151 #[.int .i64 (-9223372036854775808),.int .i64 (-1)] w fun e w'=>e= .returned (.tuple #[.int .i64 0,.int .i64 0,.int .u8 2])∧Below w.heap.size w w':=by
 go_enter Tryz.func151,Tryz.ntmps151
 go_wp2
 go_ret3
 exact⟨rfl,Below.refl _ _⟩
theorem ziq (a:Int) (w:World) (h:(a== -9223372036854775808)=false):Calls Tryz.prog 151 #[.int .i64 a,.int .i64 (-1)] w fun e w'=>e= .returned (.tuple #[.int .i64 (wrap64 (-a)),.int .i64 0,.int .u8 0])∧Below w.heap.size w w':=by
 go_enter Tryz.func151,Tryz.ntmps151
 go_wp2
 go_quiet (fail)
 go_wp2
 go_ret3
 exact⟨rfl,below_drewN (Below.refl _ _) _⟩
theorem zir (a b:Int) (w:World) (h0:¬b=0) (h1:((b== -1)=false)):Calls Tryz.prog 151 #[.int .i64 a,.int .i64 b] w fun e w'=>e= .returned (.tuple #[.int .i64 (wrap64 (a.tdiv b)),.int .i64 (a.tmod b),.int .u8 0])∧Below w.heap.size w w':=by
 go_enter Tryz.func151,Tryz.ntmps151
 go_wp2
 go_quiet (fail)
 go_wp2
 go_ret3
 exact⟨rfl,below_drewN (Below.refl _ _) _⟩
theorem zcm (a b:Int) (w:World) (ha:is64 a):Calls Tryz.prog 151 #[.int .i64 a,.int .i64 b] w fun e w'=>e= .returned (.tuple #[.int .i64 (divR a b),.int .i64 (divM a b),.int .u8 (divW a b)])∧Below w.heap.size w w':=by
 by_cases h0:b=0
 ·subst h0
  exact zkh a w
 by_cases h2:a= -9223372036854775808∧b= -1
 ·obtain⟨rfl,rfl⟩:=h2
  exact zki w
 have hf:zah (a.tdiv b)=true:=zeR (zcT a b ha h2)
 have e1:divR a b=a.tdiv b:=by simp[divR,h0,hf,okR]
 have e2:divM a b=a.tmod b:=by simp[divM,h0,hf]
 have e3:divW a b=0:=by simp[divW,h0,hf,okW]
 rw[e1,e2,e3,←zj6 a b ha h2]
 by_cases h1:b= -1
 ·subst h1
  rw[Int.tdiv_neg,Int.tdiv_one,Int.tmod_neg,Int.tmod_one]
  exact ziq a w (by simpa using fun h=>h2 ⟨h,rfl⟩)
 ·exact zir a b w h0 (by simpa using h1)
theorem znr (a b:Int) (w:World) (ha:is64 a):Calls Tryz.prog 150 #[.int .i64 a,.int .i64 b] w fun e w'=>e= .returned (.tuple #[.int .i64 (opR 8 a b),.int .u8 (opW 8 a b)])∧Below w.heap.size w w':=by
 go_enter Tryz.func150,Tryz.ntmps150
 go_wp2_with (go_at_call 151;refine(zcm _ _ _ ha).mono ?_;rintro e w' ⟨rfl,hb⟩)
 go_ret2
 exact⟨rfl,hb⟩
theorem mod_r (a b:Int) (ha:is64 a):divM a b=opR 9 a b:=by
 by_cases h0:b=0
 ·simp[divM,opR,h0]
 by_cases h2:a= -9223372036854775808∧b= -1
 ·obtain⟨rfl,rfl⟩:=h2
  decide+kernel
 have hf:zah (a.tdiv b)=true:=zeR (zcT a b ha h2)
 simp[divM,opR,h0,hf]
theorem mod_w (a b:Int):(if divW a b=2 then 0 else divW a b)=opW 9 a b:=by
 unfold divW opW okW
 by_cases h0:b=0
 ·simp[h0]
 ·cases zah (a.tdiv b)<;>simp[h0]
theorem zns (a b:Int) (w:World) (ha:is64 a):Calls Tryz.prog 152 #[.int .i64 a,.int .i64 b] w fun e w'=>e= .returned (.tuple #[.int .i64 (opR 9 a b),.int .u8 (opW 9 a b)])∧Below w.heap.size w w':=by
 rw[←mod_r a b ha,←mod_w a b]
 by_cases h:divW a b=2
 ·have h1:(divW a b==2)=true:=by simp[h]
  rw[if_pos h]
  clear h
  go_enter Tryz.func152,Tryz.ntmps152
  go_wp2_with (go_at_call 151;refine(zcm _ _ _ ha).mono ?_;rintro e w' ⟨rfl,hb⟩)
  go_ret2
  exact⟨rfl,hb⟩
 ·have h1:(divW a b==2)=false:=by simpa using h
  rw[if_neg h]
  clear h
  go_enter Tryz.func152,Tryz.ntmps152
  go_wp2_with (go_at_call 151;refine(zcm _ _ _ ha).mono ?_;rintro e w' ⟨rfl,hb⟩)
  go_ret2
  exact⟨rfl,hb⟩
theorem znt (a b:Int) (A B:Addr) (w:World) (h0:0≤b) (h1:b≤63) (ha:w.cell? A=some (.int .i64 a)) (hb:w.cell? B=some (.int .i64 b)):
  Calls Tryz.prog 155 #[.pointer (some A),.pointer (some B)] w fun e w'=>e= .returned (.tuple #[.int .i64 (opR 10 a b),.int .u8 (opW 10 a b)])∧∃n,w'=w.drewN n:=by
 have H:=Lib.hid (zek (shl_b a b h0 h1) (zb8 (a*2 ^ b.toNat)))
 go_enter Tryz.func155,Tryz.ntmps155
 go_wp2_with fail
 go_quiet ((go_at_call 146;exact Calls.quiet_of_same ((zaT _ _ _).mono fun _ _ h=>⟨h.1,h.2.symm⟩)))
 go_wp2_with fail
 go_ret2
 refine⟨?_,_,rfl⟩
 refine Eq.trans H.out ?_
 have e1:opR 10 a b=okR (zah (a*2 ^ b.toNat)) (a*2 ^ b.toNat):=by simp[opR];omega
 have e2:opW 10 a b=okW (zah (a*2 ^ b.toNat)):=by simp[opW];omega
 rw[e1,e2]
theorem znu (a b:Int) (A B:Addr) (w:World) (h0:0≤b) (h1:b≤63) (ha:w.cell? A=some (.int .i64 a)) (hb:w.cell? B=some (.int .i64 b)):
  Calls Tryz.prog 157 #[.pointer (some A),.pointer (some B)] w fun e w'=>e= .returned (.tuple #[.int .i64 (opR 11 a b),.int .u8 (opW 11 a b)])∧∃n,w'=w.drewN n:=by
 have e1:opR 11 a b=a / 2 ^ b.toNat:=by simp[opR];omega
 have e2:opW 11 a b=0:=by simp[opW];omega
 rw[e1,e2]
 clear e1 e2
 go_enter Tryz.func157,Tryz.ntmps157
 go_wp2
 go_ret2
 exact⟨rfl,0,rfl⟩
theorem zem (n:Int) (f:Value) (w:World) (h:n < 0∨63 < n):Calls Tryz.prog 154 #[.int .i64 n,f] w fun e w'=>e= .returned (.tuple #[.int .i64 0,.int .u8 4])∧w=w':=by
 by_cases h1:n < 0
 ·clear h
  go_enter Tryz.func154,Tryz.ntmps154
  go_wp2
  go_ret2
  exact⟨rfl,rfl⟩
 ·have h2:63 < n:=by omega
  clear h
  go_enter Tryz.func154,Tryz.ntmps154
  go_wp2
  go_ret2
  exact⟨rfl,rfl⟩
theorem zoN (a b:Int) (w:World) (h:b < 0∨63 < b):Calls Tryz.prog 153 #[.int .i64 a,.int .i64 b] w fun e w'=>e= .returned (.tuple #[.int .i64 (opR 10 a b),.int .u8 (opW 10 a b)])∧Below w.heap.size w w':=by
 have e1:opR 10 a b=0:=by simp[opR,h]
 have e2:opW 10 a b=4:=by simp[opW,h]
 rw[e1,e2]
 clear e1 e2
 go_enter Tryz.func153,Tryz.ntmps153
 go_wp2_with (go_at_call 154;refine(zem _ _ _ h).mono ?_;rintro e w' ⟨rfl,rfl⟩)
 go_ret2
 exact⟨rfl,((Below.refl _ _).alloc (Nat.le_refl _) _).alloc (by simp) _⟩
theorem znv (a b:Int) (w:World) (h0:0≤b) (h1:b≤63):Calls Tryz.prog 153 #[.int .i64 a,.int .i64 b] w fun e w'=>e= .returned (.tuple #[.int .i64 (opR 10 a b),.int .u8 (opW 10 a b)])∧Below w.heap.size w w':=by
 go_enter Tryz.func153,Tryz.ntmps153
 go_wp2_with fail
 go_in
 go_wp2_with fail
 refine(znt a b _ _ _ h0 h1 (by simp) (by simp)).mono ?_
 rintro e w' ⟨rfl,n,rfl⟩
 go_wp2_with fail
 go_ret2
 exact⟨rfl,below_drewN (((Below.refl _ _).alloc (Nat.le_refl _) _).alloc (by simp) _) _⟩
theorem zoO (a b:Int) (w:World) (h:b < 0∨63 < b):Calls Tryz.prog 156 #[.int .i64 a,.int .i64 b] w fun e w'=>e= .returned (.tuple #[.int .i64 (opR 11 a b),.int .u8 (opW 11 a b)])∧Below w.heap.size w w':=by
 have e1:opR 11 a b=0:=by simp[opR,h]
 have e2:opW 11 a b=4:=by simp[opW,h]
 rw[e1,e2]
 clear e1 e2
 go_enter Tryz.func156,Tryz.ntmps156
 go_wp2_with (go_at_call 154;refine(zem _ _ _ h).mono ?_;rintro e w' ⟨rfl,rfl⟩)
 go_ret2
 exact⟨rfl,((Below.refl _ _).alloc (Nat.le_refl _) _).alloc (by simp) _⟩
theorem znw (a b:Int) (w:World) (h0:0≤b) (h1:b≤63):Calls Tryz.prog 156 #[.int .i64 a,.int .i64 b] w fun e w'=>e= .returned (.tuple #[.int .i64 (opR 11 a b),.int .u8 (opW 11 a b)])∧Below w.heap.size w w':=by
 go_enter Tryz.func156,Tryz.ntmps156
 go_wp2_with fail
 go_in
 go_wp2_with fail
 refine(znu a b _ _ _ h0 h1 (by simp) (by simp)).mono ?_
 rintro e w' ⟨rfl,n,rfl⟩
 go_wp2_with fail
 go_ret2
 exact⟨rfl,below_drewN (((Below.refl _ _).alloc (Nat.le_refl _) _).alloc (by simp) _) _⟩
end Go.Proofs.YtobegfbdedgmpaaGreatDoor
