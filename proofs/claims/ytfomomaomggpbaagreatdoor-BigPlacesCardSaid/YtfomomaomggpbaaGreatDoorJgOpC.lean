import Derived.Test.YtfomomaomggpbaaGreatDoorJgCk3
set_option linter.all false
set_option maxRecDepth 100000
namespace Go.Proofs.YtfomomaomggpbaaGreatDoor
open Go.RowKit
theorem zoU (a b:Int)(w:World)(ha:is64 a):Calls Tryz.prog 249 #[.int .i64 a,.int .i64 b] w λe w'=>e= .returned (.tuple #[.int .i64 (opR 4 a b),.int .u8 (opW 4 a b)])/\w=w':=by
 have H:=Lib.hid (zfj (neg_b a ha) (zcn (-a)));go_enter Tryz.func249,Tryz.ntmps249;go_wp2_with (go_at_call 250;refine(zaY _ _ _).mono ?_;rintro e w' ⟨rfl,rfl⟩)
 go_ret2
 exact⟨H.out,rfl⟩
theorem zoV (a b:Int)(w:World)(ha:is64 a)(hb:is64 b):Calls Tryz.prog 251 #[.int .i64 a,.int .i64 b] w λe w'=>e= .returned (.tuple #[.int .i64 (opR 5 a b),.int .u8 (opW 5 a b)])/\w=w':=by
 have H:=Lib.hid (zfj (add_b a b ha hb) (zcn (a+b)));go_enter Tryz.func251,Tryz.ntmps251;go_wp2_with (go_at_call 250;refine(zaY _ _ _).mono ?_;rintro e w' ⟨rfl,rfl⟩)
 go_ret2
 exact⟨H.out,rfl⟩
theorem zoW (a b:Int)(w:World)(ha:is64 a)(hb:is64 b):Calls Tryz.prog 252 #[.int .i64 a,.int .i64 b] w λe w'=>e= .returned (.tuple #[.int .i64 (opR 6 a b),.int .u8 (opW 6 a b)])/\w=w':=by
 have H:=Lib.hid (zfj (sub_b a b ha hb) (zcn (a - b)));go_enter Tryz.func252,Tryz.ntmps252;go_wp2_with (go_at_call 250;refine(zaY _ _ _).mono ?_;rintro e w' ⟨rfl,rfl⟩)
 go_ret2
 exact⟨H.out,rfl⟩
theorem zk2 (x y:Int)(w:World)(hx:0<=x)(hy:0<=y)(GK:x < 18446744073709551616)(L1:y < 18446744073709551616):
  Calls Tryz.prog 290 #[.int .u64 x,.int .u64 y] w λe w'=>e= .returned (.tuple #[.int .u64 (x*y / 18446744073709551616),.int .u64 (x*y % 18446744073709551616)])/\w=w':=by
 obtain⟨m,rfl⟩:=Int.eq_ofNat_of_zero_le hx;obtain⟨n,rfl⟩:=Int.eq_ofNat_of_zero_le hy;exact(Tryz.bits_Mul64 m n (by omega) (by omega) w).mono λ_ _ h=>⟨by rw[h.1];simp,h.2.symm⟩
theorem zk3 (a:Int)(w:World):Calls Tryz.prog 289 #[.int .i64 a] w λe w'=>e= .returned (.int .u64 (if a < 0 then IntKind.u64.wrap (-IntKind.u64.wrap a)else IntKind.u64.wrap a))/\w=w':=by
 by_cases h:a < 0
 ·go_enter Tryz.func289,Tryz.ntmps289;go_wp2;go_ret;exact⟨by simp[h],rfl⟩
 ·go_enter Tryz.func289,Tryz.ntmps289;go_wp2;go_ret;exact⟨by simp[h],rfl⟩
theorem zcW (a:Int)(w:World)(ha:is64 a):Calls Tryz.prog 289 #[.int .i64 a] w λe w'=>e= .returned (.int .u64 (a.natAbs:Int))/\w=w':=by
 refine(zk3 a w).mono λ_ _ h=>⟨?_,h.2⟩;rw[h.1];unfold is64 at ha
 congr 2
 split<;>simp[IntKind.wrap,IntKind.min,IntKind.max,IntKind.signed,IntKind.bits]<;>omega
def hi64 (p:Int):Int:=p / 18446744073709551616
def lo64 (p:Int):Int:=p % 18446744073709551616
theorem zin (x y:Int)(w:World)(hx:0<=x)(hy:0<=y)(GK:x < 18446744073709551616)(L1:y < 18446744073709551616):
  Calls Tryz.prog 290 #[.int .u64 x,.int .u64 y] w λe w'=>e= .returned (.tuple #[.int .u64 (hi64 (x*y)),.int .u64 (lo64 (x*y))])/\w=w':=zk2 x y w hx hy GK L1
theorem zk4 (p n:Int)(h:p=n)(hp:0<=p):(if hi64 p=0 then decide (lo64 p < 9223372036854775808)else false)=zan n:=by
 subst h;unfold zan hi64 lo64;rw[Bool.eq_iff_iff];split<;>simp<;>omega
theorem zne (p n:Int)(h:p= -n)(hp:0<=p):(if hi64 p=0 then decide (lo64 p<=9223372036854775808)else false)=zan n:=by
 unfold zan hi64 lo64;rw[Bool.eq_iff_iff];split<;>simp<;>omega
theorem znf (p n:Int)(h:p=n)(hp:0<=p)(hf:zan n=true):wrap64 (lo64 p)=n:=by
 subst h;simp[zan]at hf;unfold wrap64 lo64;omega
theorem zoX (p n:Int)(h:p= -n)(hp:0<=p)(hf:zan n=true):wrap64 (IntKind.u64.wrap (-lo64 p))=n:=by
 simp[zan]at hf;simp[IntKind.wrap,IntKind.min,IntKind.max,IntKind.signed,IntKind.bits];unfold wrap64 lo64;omega
theorem zjm (a b:Int)(w:World)(ha:is64 a)(hb:is64 b)(h:decide (a < 0)=decide (b < 0)):Calls Tryz.prog 253 #[.int .i64 a,.int .i64 b] w λe w'=>e= .returned (.tuple #[.int .i64 (opR 7 a b),.int .u8 (opW 7 a b)])/\w=w':=by
 have hA:0<=(a.natAbs:Int)/\(a.natAbs:Int) < 18446744073709551616:=by unfold is64 at ha;omega
 have hB:0<=(b.natAbs:Int)/\(b.natAbs:Int) < 18446744073709551616:=by unfold is64 at hb;omega
 have hp:0<=(a.natAbs:Int)*(b.natAbs:Int):=Int.mul_nonneg hA.1 hB.1;have hm:(a.natAbs:Int)*(b.natAbs:Int)=a*b:=znb a b _ _ (by simp at h;omega);have H1:=Lib.hid (zfj (zk4 _ _ hm hp) (znf _ _ hm hp));have h2:(decide (a < 0)==decide (b < 0))=true:=by simp[h]
 clear hm h;go_enter Tryz.func253,Tryz.ntmps253;go_wp2_with fail;refine(zcW a w ha).mono ?_;rintro e w' ⟨rfl,rfl⟩;go_wp2_with fail;refine(zcW b w hb).mono ?_;rintro e w' ⟨rfl,rfl⟩;go_wp2_with fail;refine(zin _ _ _ hA.1 hB.1 hA.2 hB.2).mono ?_;rintro e w' ⟨rfl,rfl⟩;by_cases h0:hi64 ((a.natAbs:Int)*(b.natAbs:Int))=0
 ·have e0:(hi64 ((a.natAbs:Int)*(b.natAbs:Int))==0)=true:=by simp[h0]
  have h3:=H1.out;rw[if_pos h0]at h3;clear h0;have H2:=Lib.hid h3;clear h3;go_wp2_with (go_at_call 250;refine(zaY _ _ _).mono ?_;rintro e w' ⟨rfl,rfl⟩)
  go_ret2
  exact⟨H2.out,rfl⟩
 ·have e0:(hi64 ((a.natAbs:Int)*(b.natAbs:Int))==0)=false:=by simp[h0]
  have h3:=H1.out;rw[if_neg h0]at h3;clear h0;have H2:=Lib.hid h3;clear h3;go_wp2_with (go_at_call 250;refine(zaY _ _ _).mono ?_;rintro e w' ⟨rfl,rfl⟩)
  go_ret2
  exact⟨H2.out,rfl⟩
theorem zk5 (a b:Int)(w:World)(ha:is64 a)(hb:is64 b)(h:¬decide (a < 0)=decide (b < 0)):Calls Tryz.prog 253 #[.int .i64 a,.int .i64 b] w λe w'=>e= .returned (.tuple #[.int .i64 (opR 7 a b),.int .u8 (opW 7 a b)])/\w=w':=by
 have hA:0<=(a.natAbs:Int)/\(a.natAbs:Int) < 18446744073709551616:=by unfold is64 at ha;omega
 have hB:0<=(b.natAbs:Int)/\(b.natAbs:Int) < 18446744073709551616:=by unfold is64 at hb;omega
 have hp:0<=(a.natAbs:Int)*(b.natAbs:Int):=Int.mul_nonneg hA.1 hB.1;have hm:(a.natAbs:Int)*(b.natAbs:Int)= -(a*b):=mul_one a b _ _ (by simp at h;omega);have H1:=Lib.hid (zfj (zne _ _ hm hp) (zoX _ _ hm hp));have h2:(decide (a < 0)==decide (b < 0))=false:=by simpa using h
 clear hm h;go_enter Tryz.func253,Tryz.ntmps253;go_wp2_with fail;refine(zcW a w ha).mono ?_;rintro e w' ⟨rfl,rfl⟩;go_wp2_with fail;refine(zcW b w hb).mono ?_;rintro e w' ⟨rfl,rfl⟩;go_wp2_with fail;refine(zin _ _ _ hA.1 hB.1 hA.2 hB.2).mono ?_;rintro e w' ⟨rfl,rfl⟩;by_cases h0:hi64 ((a.natAbs:Int)*(b.natAbs:Int))=0
 ·have e0:(hi64 ((a.natAbs:Int)*(b.natAbs:Int))==0)=true:=by simp[h0]
  have h3:=H1.out;rw[if_pos h0]at h3;clear h0;have H2:=Lib.hid h3;clear h3;go_wp2_with (go_at_call 250;refine(zaY _ _ _).mono ?_;rintro e w' ⟨rfl,rfl⟩)
  go_ret2
  exact⟨H2.out,rfl⟩
 ·have e0:(hi64 ((a.natAbs:Int)*(b.natAbs:Int))==0)=false:=by simp[h0]
  have h3:=H1.out;rw[if_neg h0]at h3;clear h0;have H2:=Lib.hid h3;clear h3;go_wp2_with (go_at_call 250;refine(zaY _ _ _).mono ?_;rintro e w' ⟨rfl,rfl⟩)
  go_ret2
  exact⟨H2.out,rfl⟩
theorem zhv (a b:Int)(w:World)(ha:is64 a)(hb:is64 b):Calls Tryz.prog 253 #[.int .i64 a,.int .i64 b] w λe w'=>e= .returned (.tuple #[.int .i64 (opR 7 a b),.int .u8 (opW 7 a b)])/\w=w':=by
 by_cases h:decide (a < 0)=decide (b < 0)
 ·exact zjm a b w ha hb h
 ·exact zk5 a b w ha hb h
def divR (a b:Int):Int:=if b=0 then 0 else okR (zan (a.tdiv b)) (a.tdiv b)
def divM (a b:Int):Int:=if b=0 then 0 else if zan (a.tdiv b)then a.tmod b else 0
def divW (a b:Int):Int:=if b=0 then 3 else okW (zan (a.tdiv b))
theorem zk6 (a:Int)(w:World):Calls Tryz.prog 255 #[.int .i64 a,.int .i64 0] w λe w'=>e= .returned (.tuple #[.int .i64 0,.int .i64 0,.int .u8 3])/\Below w.heap.size w w':=by
 go_enter Tryz.func255,Tryz.ntmps255;go_wp2
 go_ret3
 exact⟨rfl,Below.refl _ _⟩
theorem zk7 (w:World):Calls Tryz.prog 255 #[.int .i64 (-9223372036854775808),.int .i64 (-1)] w λe w'=>e= .returned (.tuple #[.int .i64 0,.int .i64 0,.int .u8 2])/\Below w.heap.size w w':=by
 go_enter Tryz.func255,Tryz.ntmps255;go_wp2
 go_ret3
 exact⟨rfl,Below.refl _ _⟩
theorem zjn (a:Int)(w:World)(h:(a== -9223372036854775808)=false):Calls Tryz.prog 255 #[.int .i64 a,.int .i64 (-1)] w λe w'=>e= .returned (.tuple #[.int .i64 (wrap64 (-a)),.int .i64 0,.int .u8 0])/\Below w.heap.size w w':=by
 go_enter Tryz.func255,Tryz.ntmps255;go_wp2
 go_quiet (fail)
 go_wp2
 go_ret3
 exact⟨rfl,below_drewN (Below.refl _ _) _⟩
theorem zjo (a b:Int)(w:World)(h0:¬b=0)(h1:((b== -1)=false)):Calls Tryz.prog 255 #[.int .i64 a,.int .i64 b] w λe w'=>e= .returned (.tuple #[.int .i64 (wrap64 (a.tdiv b)),.int .i64 (a.tmod b),.int .u8 0])/\Below w.heap.size w w':=by
 go_enter Tryz.func255,Tryz.ntmps255;go_wp2
 go_quiet (fail)
 go_wp2
 go_ret3
 exact⟨rfl,below_drewN (Below.refl _ _) _⟩
theorem zcC (a b:Int)(w:World)(ha:is64 a):Calls Tryz.prog 255 #[.int .i64 a,.int .i64 b] w λe w'=>e= .returned (.tuple #[.int .i64 (divR a b),.int .i64 (divM a b),.int .u8 (divW a b)])/\Below w.heap.size w w':=by
 by_cases h0:b=0
 ·subst h0;exact zk6 a w
 by_cases h2:a= -9223372036854775808/\b= -1
 ·obtain⟨rfl,rfl⟩:=h2;exact zk7 w
 have hf:zan (a.tdiv b)=true:=zfT (zds a b ha h2);have e1:divR a b=a.tdiv b:=by simp[divR,h0,hf,okR]
 have e2:divM a b=a.tmod b:=by simp[divM,h0,hf]
 have e3:divW a b=0:=by simp[divW,h0,hf,okW]
 rw[e1,e2,e3,<-zkZ a b ha h2];by_cases h1:b= -1
 ·subst h1;rw[Int.tdiv_neg,Int.tdiv_one,Int.tmod_neg,Int.tmod_one];exact zjn a w (by simpa using λh=>h2 ⟨h,rfl⟩)
 ·exact zjo a b w h0 (by simpa using h1)
theorem zoY (a b:Int)(w:World)(ha:is64 a):Calls Tryz.prog 254 #[.int .i64 a,.int .i64 b] w λe w'=>e= .returned (.tuple #[.int .i64 (opR 8 a b),.int .u8 (opW 8 a b)])/\Below w.heap.size w w':=by
 go_enter Tryz.func254,Tryz.ntmps254;go_wp2_with (go_at_call 255;refine(zcC _ _ _ ha).mono ?_;rintro e w' ⟨rfl,hb⟩)
 go_ret2
 exact⟨rfl,hb⟩
theorem mod_r (a b:Int)(ha:is64 a):divM a b=opR 9 a b:=by
 by_cases h0:b=0
 ·simp[divM,opR,h0]
 by_cases h2:a= -9223372036854775808/\b= -1
 ·obtain⟨rfl,rfl⟩:=h2
  decide+kernel
 have hf:zan (a.tdiv b)=true:=zfT (zds a b ha h2);simp[divM,opR,h0,hf]
theorem mod_w (a b:Int):(if divW a b=2 then 0 else divW a b)=opW 9 a b:=by
 unfold divW opW okW;by_cases h0:b=0
 ·simp[h0]
 ·cases zan (a.tdiv b)<;>simp[h0]
theorem zoZ (a b:Int)(w:World)(ha:is64 a):Calls Tryz.prog 256 #[.int .i64 a,.int .i64 b] w λe w'=>e= .returned (.tuple #[.int .i64 (opR 9 a b),.int .u8 (opW 9 a b)])/\Below w.heap.size w w':=by
 rw[<-mod_r a b ha,<-mod_w a b];by_cases h:divW a b=2
 ·have h1:(divW a b==2)=true:=by simp[h]
  rw[if_pos h];clear h;go_enter Tryz.func256,Tryz.ntmps256;go_wp2_with (go_at_call 255;refine(zcC _ _ _ ha).mono ?_;rintro e w' ⟨rfl,hb⟩)
  go_ret2
  exact⟨rfl,hb⟩
 ·have h1:(divW a b==2)=false:=by simpa using h
  rw[if_neg h];clear h;go_enter Tryz.func256,Tryz.ntmps256;go_wp2_with (go_at_call 255;refine(zcC _ _ _ ha).mono ?_;rintro e w' ⟨rfl,hb⟩)
  go_ret2
  exact⟨rfl,hb⟩
theorem zo0 (a b:Int)(A B:Addr)(w:World)(h0:0<=b)(h1:b<=63)(ha:w.cell? A=some (.int .i64 a))(hb:w.cell? B=some (.int .i64 b)):
  Calls Tryz.prog 259 #[.pointer (some A),.pointer (some B)] w λe w'=>e= .returned (.tuple #[.int .i64 (opR 10 a b),.int .u8 (opW 10 a b)])/\∃n,w'=w.drewN n:=by
 have H:=Lib.hid (zfj (shl_b a b h0 h1) (zcn (a*2 ^ b.toNat)));go_enter Tryz.func259,Tryz.ntmps259;go_wp2_with fail
 go_quiet ((go_at_call 250;exact Calls.quiet_of_same ((zaY _ _ _).mono λ_ _ h=>⟨h.1,h.2.symm⟩)))
 go_wp2_with fail
 go_ret2
 refine⟨?_,_,rfl⟩;refine Eq.trans H.out ?_;have e1:opR 10 a b=okR (zan (a*2 ^ b.toNat)) (a*2 ^ b.toNat):=by simp[opR];omega
 have e2:opW 10 a b=okW (zan (a*2 ^ b.toNat)):=by simp[opW];omega
 rw[e1,e2]
theorem zo1 (a b:Int)(A B:Addr)(w:World)(h0:0<=b)(h1:b<=63)(ha:w.cell? A=some (.int .i64 a))(hb:w.cell? B=some (.int .i64 b)):
  Calls Tryz.prog 261 #[.pointer (some A),.pointer (some B)] w λe w'=>e= .returned (.tuple #[.int .i64 (opR 11 a b),.int .u8 (opW 11 a b)])/\∃n,w'=w.drewN n:=by
 have e1:opR 11 a b=a / 2 ^ b.toNat:=by simp[opR];omega
 have e2:opW 11 a b=0:=by simp[opW];omega
 rw[e1,e2];clear e1 e2;go_enter Tryz.func261,Tryz.ntmps261;go_wp2
 go_ret2
 exact⟨rfl,0,rfl⟩
theorem zfk (n:Int)(f:Value)(w:World)(h:n < 0\/63 < n):Calls Tryz.prog 258 #[.int .i64 n,f] w λe w'=>e= .returned (.tuple #[.int .i64 0,.int .u8 4])/\w=w':=by
 by_cases h1:n < 0
 ·clear h;go_enter Tryz.func258,Tryz.ntmps258;go_wp2
  go_ret2
  exact⟨rfl,rfl⟩
 ·have h2:63 < n:=by omega
  clear h;go_enter Tryz.func258,Tryz.ntmps258;go_wp2
  go_ret2
  exact⟨rfl,rfl⟩
theorem zp7 (a b:Int)(w:World)(h:b < 0\/63 < b):Calls Tryz.prog 257 #[.int .i64 a,.int .i64 b] w λe w'=>e= .returned (.tuple #[.int .i64 (opR 10 a b),.int .u8 (opW 10 a b)])/\Below w.heap.size w w':=by
 have e1:opR 10 a b=0:=by simp[opR,h]
 have e2:opW 10 a b=4:=by simp[opW,h]
 rw[e1,e2];clear e1 e2;go_enter Tryz.func257,Tryz.ntmps257;go_wp2_with (go_at_call 258;refine(zfk _ _ _ h).mono ?_;rintro e w' ⟨rfl,rfl⟩)
 go_ret2
 exact⟨rfl,((Below.refl _ _).alloc (Nat.le_refl _) _).alloc (by simp) _⟩
theorem zo2 (a b:Int)(w:World)(h0:0<=b)(h1:b<=63):Calls Tryz.prog 257 #[.int .i64 a,.int .i64 b] w λe w'=>e= .returned (.tuple #[.int .i64 (opR 10 a b),.int .u8 (opW 10 a b)])/\Below w.heap.size w w':=by
 go_enter Tryz.func257,Tryz.ntmps257;go_wp2_with fail
 go_in
 go_wp2_with fail;refine(zo0 a b _ _ _ h0 h1 (by simp) (by simp)).mono ?_;rintro e w' ⟨rfl,n,rfl⟩;go_wp2_with fail
 go_ret2
 exact⟨rfl,below_drewN (((Below.refl _ _).alloc (Nat.le_refl _) _).alloc (by simp) _) _⟩
theorem zp8 (a b:Int)(w:World)(h:b < 0\/63 < b):Calls Tryz.prog 260 #[.int .i64 a,.int .i64 b] w λe w'=>e= .returned (.tuple #[.int .i64 (opR 11 a b),.int .u8 (opW 11 a b)])/\Below w.heap.size w w':=by
 have e1:opR 11 a b=0:=by simp[opR,h]
 have e2:opW 11 a b=4:=by simp[opW,h]
 rw[e1,e2];clear e1 e2;go_enter Tryz.func260,Tryz.ntmps260;go_wp2_with (go_at_call 258;refine(zfk _ _ _ h).mono ?_;rintro e w' ⟨rfl,rfl⟩)
 go_ret2
 exact⟨rfl,((Below.refl _ _).alloc (Nat.le_refl _) _).alloc (by simp) _⟩
theorem zo3 (a b:Int)(w:World)(h0:0<=b)(h1:b<=63):Calls Tryz.prog 260 #[.int .i64 a,.int .i64 b] w λe w'=>e= .returned (.tuple #[.int .i64 (opR 11 a b),.int .u8 (opW 11 a b)])/\Below w.heap.size w w':=by
 go_enter Tryz.func260,Tryz.ntmps260;go_wp2_with fail
 go_in
 go_wp2_with fail;refine(zo1 a b _ _ _ h0 h1 (by simp) (by simp)).mono ?_;rintro e w' ⟨rfl,n,rfl⟩;go_wp2_with fail
 go_ret2
 exact⟨rfl,below_drewN (((Below.refl _ _).alloc (Nat.le_refl _) _).alloc (by simp) _) _⟩
open Go.RowKit Go.Shelf
def zng:Value:= .agg #[.nilFunc,.nilFunc,.nilFunc,.nilFunc,.func (.func 249) #[] #[],.func (.func 251) #[] #[],.func (.func 252) #[] #[],.func (.func 253) #[] #[],.func (.func 254) #[] #[],.func (.func 256) #[] #[],.func (.func 257) #[] #[],.func (.func 260) #[] #[]]
theorem zo4 (w:World):Calls Tryz.prog 216 #[] w λe w'=>e= .returned zng/\Below w.heap.size w w':=by
 go_enter Tryz.func216,Tryz.ntmps216;go_wp2;exact bodyPost_ret (v:=zng) (by simp[zng,results,Tryz.results216,go_sem]) rfl ⟨rfl,(Below.refl _ _).alloc (Nat.le_refl _) _⟩
theorem zba (k a b:Int)(g:Nat)(n r:Int)(w:World)(h0:4<=k)(h1:k<=11)
  (FD:∀w,(Instr.index 306 zng (.int .u8 k)).run Tryz.prog w= .ok (.func (.func g) #[] #[]) w)
  (hent:∀(args:Array Value)(w:World),(callFunc g args).run Tryz.prog w= .ok (.enter g args) w)
  (hg:∀w,Calls Tryz.prog g #[.int .i64 a,.int .i64 b] w λe w'=>e= .returned (.tuple #[.int .i64 n,.int .u8 r])/\Below w.heap.size w w'):
  Calls Tryz.prog 157 #[.int .u8 k,.int .i64 a,.int .i64 b] w λe w'=>e= .returned (.tuple #[.int .i64 n,.int .u8 r,.int .i64 0])/\Below w.heap.size w w':=by
 have HG:=Lib.hid hg;clear hg;go_enter Tryz.func157,Tryz.ntmps157;go_wp2_with fail;refine(zo4 _).mono ?_;rintro e w1 ⟨rfl,Gz⟩;go_wp2_with fail;refine(HG _).mono ?_;rintro e w2 ⟨rfl,G2⟩;go_wp2_with fail
 go_ret3
 exact⟨rfl,Gz.trans (G2.mono Gz.size)⟩
theorem zk8 (k a b:Int)(w:World)(h0:4<=k)(h1:k<=11)(ha:is64 a)(hb:is64 b):
  Calls Tryz.prog 157 #[.int .u8 k,.int .i64 a,.int .i64 b] w λe w'=>e= .returned (.tuple #[.int .i64 (opR k a b),.int .u8 (opW k a b),.int .i64 0])/\Below w.heap.size w w':=by
 have hk:k=4\/k=5\/k=6\/k=7\/k=8\/k=9\/k=10\/k=11:=by omega
 rcases hk with rfl|rfl|rfl|rfl|rfl|rfl|rfl|rfl
 ·exact zba 4 a b 249 _ _ w h0 h1 (λ_=>by kernel_rfl) (enters_of Tryz.func249 (by kernel_rfl) rfl) λw=>(zoU a b w ha).mono λ_ _ h=>⟨h.1,h.2▸Below.refl _ _⟩
 ·exact zba 5 a b 251 _ _ w h0 h1 (λ_=>by kernel_rfl) (enters_of Tryz.func251 (by kernel_rfl) rfl) λw=>(zoV a b w ha hb).mono λ_ _ h=>⟨h.1,h.2▸Below.refl _ _⟩
 ·exact zba 6 a b 252 _ _ w h0 h1 (λ_=>by kernel_rfl) (enters_of Tryz.func252 (by kernel_rfl) rfl) λw=>(zoW a b w ha hb).mono λ_ _ h=>⟨h.1,h.2▸Below.refl _ _⟩
 ·exact zba 7 a b 253 _ _ w h0 h1 (λ_=>by kernel_rfl) (enters_of Tryz.func253 (by kernel_rfl) rfl) λw=>(zhv a b w ha hb).mono λ_ _ h=>⟨h.1,h.2▸Below.refl _ _⟩
 ·exact zba 8 a b 254 _ _ w h0 h1 (λ_=>by kernel_rfl) (enters_of Tryz.func254 (by kernel_rfl) rfl) λw=>zoY a b w ha
 ·exact zba 9 a b 256 _ _ w h0 h1 (λ_=>by kernel_rfl) (enters_of Tryz.func256 (by kernel_rfl) rfl) λw=>zoZ a b w ha
 ·by_cases h:b < 0\/63 < b
  ·exact zba 10 a b 257 _ _ w h0 h1 (λ_=>by kernel_rfl) (enters_of Tryz.func257 (by kernel_rfl) rfl) λw=>zp7 a b w h
  ·exact zba 10 a b 257 _ _ w h0 h1 (λ_=>by kernel_rfl) (enters_of Tryz.func257 (by kernel_rfl) rfl) λw=>zo2 a b w (by omega) (by omega)
 ·by_cases h:b < 0\/63 < b
  ·exact zba 11 a b 260 _ _ w h0 h1 (λ_=>by kernel_rfl) (enters_of Tryz.func260 (by kernel_rfl) rfl) λw=>zp8 a b w h
  ·exact zba 11 a b 260 _ _ w h0 h1 (λ_=>by kernel_rfl) (enters_of Tryz.func260 (by kernel_rfl) rfl) λw=>zo3 a b w (by omega) (by omega)
/-! the other text's operations -/
def cmpB (k a b:Int):Bool:=
 if k=3 then decide (a < b)else if k=4 then decide (a<=b)else if k=5 then decide (b < a)else if k=6 then decide (b<=a)else if k=7 then a==b else if k=8 then a != b else false
def cmpE (k:Int):Int:=if 3<=k/\k<=8 then 0 else 2
theorem zhw (k a b:Int)(w:World):
  Calls Tryz.prog 89 #[.int .u8 k,.int .i64 a,.int .i64 b] w λe w'=>e= .returned (.tuple #[.bool (cmpB k a b),.int .i64 (cmpE k)])/\w=w':=by
 by_cases hk:k=3\/k=4\/k=5\/k=6\/k=7\/k=8
 ·rcases hk with rfl|rfl|rfl|rfl|rfl|rfl;all_goals
   go_enter Tryz.func89,Tryz.ntmps89;go_wp2
   go_ret2
   exact⟨rfl,rfl⟩
 ·have h3:(k==3)=false:=by simp;omega
  have h4:(k==4)=false:=by simp;omega
  have h5:(k==5)=false:=by simp;omega
  have h6:(k==6)=false:=by simp;omega
  have h7:(k==7)=false:=by simp;omega
  have h8:(k==8)=false:=by simp;omega
  have e1:cmpB k 0 0=false/\cmpE k=2:=by
   have:¬(3<=k/\k<=8):=by omega
   unfold cmpB cmpE;simp at h3 h4 h5 h6 h7 h8;simp[h3,h4,h5,h6,h7,h8,this]
  have e2:cmpB k a b=false:=by
   unfold cmpB;simp at h3 h4 h5 h6 h7 h8;simp[h3,h4,h5,h6,h7,h8]
  rw[e1.2,e2];clear e1 e2 hk;go_enter Tryz.func89,Tryz.ntmps89;go_wp2
  go_ret2
  exact⟨rfl,rfl⟩
