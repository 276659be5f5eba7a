import Derived.Test.YtfomomaomggpbaaGreatDoorJgCk3
set_option linter.all false
set_option maxRecDepth 100000
namespace Go.Proofs.YtfomomaomggpbaaGreatDoor
open Go.RowKit
theorem znt (a b:Int)(w:World)(ha:is64 a):Calls Tryz.prog 249 #[.int .i64 a,.int .i64 b] w λe w'=>e= .returned (.tuple #[.int .i64 (opR 4 a b),.int .u8 (opW 4 a b)])/\w=w':=by
 have H:=Lib.hid (zeH (neg_b a ha) (zce (-a)));go_enter Tryz.func249,Tryz.ntmps249;go_wp2_with (go_at_call 250;refine(zaW _ _ _).mono ?_;rintro e w' ⟨rfl,rfl⟩)
 go_ret2
 exact⟨H.out,rfl⟩
theorem znu (a b:Int)(w:World)(ha:is64 a)(hb:is64 b):Calls Tryz.prog 251 #[.int .i64 a,.int .i64 b] w λe w'=>e= .returned (.tuple #[.int .i64 (opR 5 a b),.int .u8 (opW 5 a b)])/\w=w':=by
 have H:=Lib.hid (zeH (add_b a b ha hb) (zce (a+b)));go_enter Tryz.func251,Tryz.ntmps251;go_wp2_with (go_at_call 250;refine(zaW _ _ _).mono ?_;rintro e w' ⟨rfl,rfl⟩)
 go_ret2
 exact⟨H.out,rfl⟩
theorem znv (a b:Int)(w:World)(ha:is64 a)(hb:is64 b):Calls Tryz.prog 252 #[.int .i64 a,.int .i64 b] w λe w'=>e= .returned (.tuple #[.int .i64 (opR 6 a b),.int .u8 (opW 6 a b)])/\w=w':=by
 have H:=Lib.hid (zeH (sub_b a b ha hb) (zce (a - b)));go_enter Tryz.func252,Tryz.ntmps252;go_wp2_with (go_at_call 250;refine(zaW _ _ _).mono ?_;rintro e w' ⟨rfl,rfl⟩)
 go_ret2
 exact⟨H.out,rfl⟩
theorem zjO (x y:Int)(w:World)(hx:0<=x)(hy:0<=y)(GC:x < 18446744073709551616)(LE:y < 18446744073709551616):
  Calls Tryz.prog 290 #[.int .u64 x,.int .u64 y] w λe w'=>e= .returned (.tuple #[.int .u64 (x*y / 18446744073709551616),.int .u64 (x*y % 18446744073709551616)])/\w=w':=by
 obtain⟨m,rfl⟩:=Int.eq_ofNat_of_zero_le hx;obtain⟨n,rfl⟩:=Int.eq_ofNat_of_zero_le hy;exact(Tryz.bits_Mul64 m n (by omega) (by omega) w).mono λ_ _ h=>⟨by rw[h.1];simp,h.2.symm⟩
theorem zjP (a:Int)(w:World):Calls Tryz.prog 289 #[.int .i64 a] w λe w'=>e= .returned (.int .u64 (if a < 0 then IntKind.u64.wrap (-IntKind.u64.wrap a)else IntKind.u64.wrap a))/\w=w':=by
 by_cases h:a < 0
 ·go_enter Tryz.func289,Tryz.ntmps289;go_wp2;go_ret;exact⟨by simp[h],rfl⟩
 ·go_enter Tryz.func289,Tryz.ntmps289;go_wp2;go_ret;exact⟨by simp[h],rfl⟩
theorem zcM (a:Int)(w:World)(ha:is64 a):Calls Tryz.prog 289 #[.int .i64 a] w λe w'=>e= .returned (.int .u64 (a.natAbs:Int))/\w=w':=by
 refine(zjP a w).mono λ_ _ h=>⟨?_,h.2⟩;rw[h.1];unfold is64 at ha
 congr 2
 split<;>simp[IntKind.wrap,IntKind.min,IntKind.max,IntKind.signed,IntKind.bits]<;>omega
def hi64 (p:Int):Int:=p / 18446744073709551616
def lo64 (p:Int):Int:=p % 18446744073709551616
theorem zhv (x y:Int)(w:World)(hx:0<=x)(hy:0<=y)(GC:x < 18446744073709551616)(LE:y < 18446744073709551616):
  Calls Tryz.prog 290 #[.int .u64 x,.int .u64 y] w λe w'=>e= .returned (.tuple #[.int .u64 (hi64 (x*y)),.int .u64 (lo64 (x*y))])/\w=w':=zjO x y w hx hy GC LE
theorem zjQ (p n:Int)(h:p=n)(hp:0<=p):(if hi64 p=0 then decide (lo64 p < 9223372036854775808)else false)=zan n:=by
 subst h;unfold zan hi64 lo64;rw[Bool.eq_iff_iff];split<;>simp<;>omega
theorem zlM (p n:Int)(h:p= -n)(hp:0<=p):(if hi64 p=0 then decide (lo64 p<=9223372036854775808)else false)=zan n:=by
 unfold zan hi64 lo64;rw[Bool.eq_iff_iff];split<;>simp<;>omega
theorem zlN (p n:Int)(h:p=n)(hp:0<=p)(hf:zan n=true):wrap64 (lo64 p)=n:=by
 subst h;simp[zan]at hf;unfold wrap64 lo64;omega
theorem znw (p n:Int)(h:p= -n)(hp:0<=p)(hf:zan n=true):wrap64 (IntKind.u64.wrap (-lo64 p))=n:=by
 simp[zan]at hf;simp[IntKind.wrap,IntKind.min,IntKind.max,IntKind.signed,IntKind.bits];unfold wrap64 lo64;omega
theorem zir (a b:Int)(w:World)(ha:is64 a)(hb:is64 b)(h:decide (a < 0)=decide (b < 0)):Calls Tryz.prog 253 #[.int .i64 a,.int .i64 b] w λe w'=>e= .returned (.tuple #[.int .i64 (opR 7 a b),.int .u8 (opW 7 a b)])/\w=w':=by
 have hA:0<=(a.natAbs:Int)/\(a.natAbs:Int) < 18446744073709551616:=by unfold is64 at ha;omega
 have hB:0<=(b.natAbs:Int)/\(b.natAbs:Int) < 18446744073709551616:=by unfold is64 at hb;omega
 have hp:0<=(a.natAbs:Int)*(b.natAbs:Int):=Int.mul_nonneg hA.1 hB.1;have hm:(a.natAbs:Int)*(b.natAbs:Int)=a*b:=zlJ a b _ _ (by simp at h;omega);have H1:=Lib.hid (zeH (zjQ _ _ hm hp) (zlN _ _ hm hp));have h2:(decide (a < 0)==decide (b < 0))=true:=by simp[h]
 clear hm h;go_enter Tryz.func253,Tryz.ntmps253;go_wp2_with fail;refine(zcM a w ha).mono ?_;rintro e w' ⟨rfl,rfl⟩;go_wp2_with fail;refine(zcM b w hb).mono ?_;rintro e w' ⟨rfl,rfl⟩;go_wp2_with fail;refine(zhv _ _ _ hA.1 hB.1 hA.2 hB.2).mono ?_;rintro e w' ⟨rfl,rfl⟩;by_cases h0:hi64 ((a.natAbs:Int)*(b.natAbs:Int))=0
 ·have e0:(hi64 ((a.natAbs:Int)*(b.natAbs:Int))==0)=true:=by simp[h0]
  have h3:=H1.out;rw[if_pos h0]at h3;clear h0;have H2:=Lib.hid h3;clear h3;go_wp2_with (go_at_call 250;refine(zaW _ _ _).mono ?_;rintro e w' ⟨rfl,rfl⟩)
  go_ret2
  exact⟨H2.out,rfl⟩
 ·have e0:(hi64 ((a.natAbs:Int)*(b.natAbs:Int))==0)=false:=by simp[h0]
  have h3:=H1.out;rw[if_neg h0]at h3;clear h0;have H2:=Lib.hid h3;clear h3;go_wp2_with (go_at_call 250;refine(zaW _ _ _).mono ?_;rintro e w' ⟨rfl,rfl⟩)
  go_ret2
  exact⟨H2.out,rfl⟩
theorem zjR (a b:Int)(w:World)(ha:is64 a)(hb:is64 b)(h:¬decide (a < 0)=decide (b < 0)):Calls Tryz.prog 253 #[.int .i64 a,.int .i64 b] w λe w'=>e= .returned (.tuple #[.int .i64 (opR 7 a b),.int .u8 (opW 7 a b)])/\w=w':=by
 have hA:0<=(a.natAbs:Int)/\(a.natAbs:Int) < 18446744073709551616:=by unfold is64 at ha;omega
 have hB:0<=(b.natAbs:Int)/\(b.natAbs:Int) < 18446744073709551616:=by unfold is64 at hb;omega
 have hp:0<=(a.natAbs:Int)*(b.natAbs:Int):=Int.mul_nonneg hA.1 hB.1;have hm:(a.natAbs:Int)*(b.natAbs:Int)= -(a*b):=mul_one a b _ _ (by simp at h;omega);have H1:=Lib.hid (zeH (zlM _ _ hm hp) (znw _ _ hm hp));have h2:(decide (a < 0)==decide (b < 0))=false:=by simpa using h
 clear hm h;go_enter Tryz.func253,Tryz.ntmps253;go_wp2_with fail;refine(zcM a w ha).mono ?_;rintro e w' ⟨rfl,rfl⟩;go_wp2_with fail;refine(zcM b w hb).mono ?_;rintro e w' ⟨rfl,rfl⟩;go_wp2_with fail;refine(zhv _ _ _ hA.1 hB.1 hA.2 hB.2).mono ?_;rintro e w' ⟨rfl,rfl⟩;by_cases h0:hi64 ((a.natAbs:Int)*(b.natAbs:Int))=0
 ·have e0:(hi64 ((a.natAbs:Int)*(b.natAbs:Int))==0)=true:=by simp[h0]
  have h3:=H1.out;rw[if_pos h0]at h3;clear h0;have H2:=Lib.hid h3;clear h3;go_wp2_with (go_at_call 250;refine(zaW _ _ _).mono ?_;rintro e w' ⟨rfl,rfl⟩)
  go_ret2
  exact⟨H2.out,rfl⟩
 ·have e0:(hi64 ((a.natAbs:Int)*(b.natAbs:Int))==0)=false:=by simp[h0]
  have h3:=H1.out;rw[if_neg h0]at h3;clear h0;have H2:=Lib.hid h3;clear h3;go_wp2_with (go_at_call 250;refine(zaW _ _ _).mono ?_;rintro e w' ⟨rfl,rfl⟩)
  go_ret2
  exact⟨H2.out,rfl⟩
theorem zgM (a b:Int)(w:World)(ha:is64 a)(hb:is64 b):Calls Tryz.prog 253 #[.int .i64 a,.int .i64 b] w λe w'=>e= .returned (.tuple #[.int .i64 (opR 7 a b),.int .u8 (opW 7 a b)])/\w=w':=by
 by_cases h:decide (a < 0)=decide (b < 0)
 ·exact zir a b w ha hb h
 ·exact zjR a b w ha hb h
def divR (a b:Int):Int:=if b=0 then 0 else okR (zan (a.tdiv b)) (a.tdiv b)
def divM (a b:Int):Int:=if b=0 then 0 else if zan (a.tdiv b)then a.tmod b else 0
def divW (a b:Int):Int:=if b=0 then 3 else okW (zan (a.tdiv b))
theorem zjS (a:Int)(w:World):Calls Tryz.prog 255 #[.int .i64 a,.int .i64 0] w λe w'=>e= .returned (.tuple #[.int .i64 0,.int .i64 0,.int .u8 3])/\Below w.heap.size w w':=by
 go_enter Tryz.func255,Tryz.ntmps255;go_wp2
 go_ret3
 exact⟨rfl,Below.refl _ _⟩
theorem zjT (w:World):Calls Tryz.prog 255 #[.int .i64 (-9223372036854775808),.int .i64 (-1)] w λe w'=>e= .returned (.tuple #[.int .i64 0,.int .i64 0,.int .u8 2])/\Below w.heap.size w w':=by
 go_enter Tryz.func255,Tryz.ntmps255;go_wp2
 go_ret3
 exact⟨rfl,Below.refl _ _⟩
theorem zis (a:Int)(w:World)(h:(a== -9223372036854775808)=false):Calls Tryz.prog 255 #[.int .i64 a,.int .i64 (-1)] w λe w'=>e= .returned (.tuple #[.int .i64 (wrap64 (-a)),.int .i64 0,.int .u8 0])/\Below w.heap.size w w':=by
 go_enter Tryz.func255,Tryz.ntmps255;go_wp2
 go_quiet (fail)
 go_wp2
 go_ret3
 exact⟨rfl,below_drewN (Below.refl _ _) _⟩
theorem zit (a b:Int)(w:World)(h0:¬b=0)(h1:((b== -1)=false)):Calls Tryz.prog 255 #[.int .i64 a,.int .i64 b] w λe w'=>e= .returned (.tuple #[.int .i64 (wrap64 (a.tdiv b)),.int .i64 (a.tmod b),.int .u8 0])/\Below w.heap.size w w':=by
 go_enter Tryz.func255,Tryz.ntmps255;go_wp2
 go_quiet (fail)
 go_wp2
 go_ret3
 exact⟨rfl,below_drewN (Below.refl _ _) _⟩
theorem zcu (a b:Int)(w:World)(ha:is64 a):Calls Tryz.prog 255 #[.int .i64 a,.int .i64 b] w λe w'=>e= .returned (.tuple #[.int .i64 (divR a b),.int .i64 (divM a b),.int .u8 (divW a b)])/\Below w.heap.size w w':=by
 by_cases h0:b=0
 ·subst h0;exact zjS a w
 by_cases h2:a= -9223372036854775808/\b= -1
 ·obtain⟨rfl,rfl⟩:=h2;exact zjT w
 have hf:zan (a.tdiv b)=true:=zfm (zc9 a b ha h2);have e1:divR a b=a.tdiv b:=by simp[divR,h0,hf,okR]
 have e2:divM a b=a.tmod b:=by simp[divM,h0,hf]
 have e3:divW a b=0:=by simp[divW,h0,hf,okW]
 rw[e1,e2,e3,<-zjJ a b ha h2];by_cases h1:b= -1
 ·subst h1;rw[Int.tdiv_neg,Int.tdiv_one,Int.tmod_neg,Int.tmod_one];exact zis a w (by simpa using λh=>h2 ⟨h,rfl⟩)
 ·exact zit a b w h0 (by simpa using h1)
theorem znx (a b:Int)(w:World)(ha:is64 a):Calls Tryz.prog 254 #[.int .i64 a,.int .i64 b] w λe w'=>e= .returned (.tuple #[.int .i64 (opR 8 a b),.int .u8 (opW 8 a b)])/\Below w.heap.size w w':=by
 go_enter Tryz.func254,Tryz.ntmps254;go_wp2_with (go_at_call 255;refine(zcu _ _ _ ha).mono ?_;rintro e w' ⟨rfl,hb⟩)
 go_ret2
 exact⟨rfl,hb⟩
theorem mod_r (a b:Int)(ha:is64 a):divM a b=opR 9 a b:=by
 by_cases h0:b=0
 ·simp[divM,opR,h0]
 by_cases h2:a= -9223372036854775808/\b= -1
 ·obtain⟨rfl,rfl⟩:=h2
  decide+kernel
 have hf:zan (a.tdiv b)=true:=zfm (zc9 a b ha h2);simp[divM,opR,h0,hf]
theorem mod_w (a b:Int):(if divW a b=2 then 0 else divW a b)=opW 9 a b:=by
 unfold divW opW okW;by_cases h0:b=0
 ·simp[h0]
 ·cases zan (a.tdiv b)<;>simp[h0]
theorem zny (a b:Int)(w:World)(ha:is64 a):Calls Tryz.prog 256 #[.int .i64 a,.int .i64 b] w λe w'=>e= .returned (.tuple #[.int .i64 (opR 9 a b),.int .u8 (opW 9 a b)])/\Below w.heap.size w w':=by
 rw[<-mod_r a b ha,<-mod_w a b];by_cases h:divW a b=2
 ·have h1:(divW a b==2)=true:=by simp[h]
  rw[if_pos h];clear h;go_enter Tryz.func256,Tryz.ntmps256;go_wp2_with (go_at_call 255;refine(zcu _ _ _ ha).mono ?_;rintro e w' ⟨rfl,hb⟩)
  go_ret2
  exact⟨rfl,hb⟩
 ·have h1:(divW a b==2)=false:=by simpa using h
  rw[if_neg h];clear h;go_enter Tryz.func256,Tryz.ntmps256;go_wp2_with (go_at_call 255;refine(zcu _ _ _ ha).mono ?_;rintro e w' ⟨rfl,hb⟩)
  go_ret2
  exact⟨rfl,hb⟩
theorem znz (a b:Int)(A B:Addr)(w:World)(h0:0<=b)(h1:b<=63)(ha:w.cell? A=some (.int .i64 a))(hb:w.cell? B=some (.int .i64 b)):
  Calls Tryz.prog 259 #[.pointer (some A),.pointer (some B)] w λe w'=>e= .returned (.tuple #[.int .i64 (opR 10 a b),.int .u8 (opW 10 a b)])/\∃n,w'=w.drewN n:=by
 have H:=Lib.hid (zeH (shl_b a b h0 h1) (zce (a*2 ^ b.toNat)));go_enter Tryz.func259,Tryz.ntmps259;go_wp2_with fail
 go_quiet ((go_at_call 250;exact Calls.quiet_of_same ((zaW _ _ _).mono λ_ _ h=>⟨h.1,h.2.symm⟩)))
 go_wp2_with fail
 go_ret2
 refine⟨?_,_,rfl⟩;refine Eq.trans H.out ?_;have e1:opR 10 a b=okR (zan (a*2 ^ b.toNat)) (a*2 ^ b.toNat):=by simp[opR];omega
 have e2:opW 10 a b=okW (zan (a*2 ^ b.toNat)):=by simp[opW];omega
 rw[e1,e2]
theorem znA (a b:Int)(A B:Addr)(w:World)(h0:0<=b)(h1:b<=63)(ha:w.cell? A=some (.int .i64 a))(hb:w.cell? B=some (.int .i64 b)):
  Calls Tryz.prog 261 #[.pointer (some A),.pointer (some B)] w λe w'=>e= .returned (.tuple #[.int .i64 (opR 11 a b),.int .u8 (opW 11 a b)])/\∃n,w'=w.drewN n:=by
 have e1:opR 11 a b=a / 2 ^ b.toNat:=by simp[opR];omega
 have e2:opW 11 a b=0:=by simp[opW];omega
 rw[e1,e2];clear e1 e2;go_enter Tryz.func261,Tryz.ntmps261;go_wp2
 go_ret2
 exact⟨rfl,0,rfl⟩
theorem zeI (n:Int)(f:Value)(w:World)(h:n < 0\/63 < n):Calls Tryz.prog 258 #[.int .i64 n,f] w λe w'=>e= .returned (.tuple #[.int .i64 0,.int .u8 4])/\w=w':=by
 by_cases h1:n < 0
 ·clear h;go_enter Tryz.func258,Tryz.ntmps258;go_wp2
  go_ret2
  exact⟨rfl,rfl⟩
 ·have h2:63 < n:=by omega
  clear h;go_enter Tryz.func258,Tryz.ntmps258;go_wp2
  go_ret2
  exact⟨rfl,rfl⟩
theorem zos (a b:Int)(w:World)(h:b < 0\/63 < b):Calls Tryz.prog 257 #[.int .i64 a,.int .i64 b] w λe w'=>e= .returned (.tuple #[.int .i64 (opR 10 a b),.int .u8 (opW 10 a b)])/\Below w.heap.size w w':=by
 have e1:opR 10 a b=0:=by simp[opR,h]
 have e2:opW 10 a b=4:=by simp[opW,h]
 rw[e1,e2];clear e1 e2;go_enter Tryz.func257,Tryz.ntmps257;go_wp2_with (go_at_call 258;refine(zeI _ _ _ h).mono ?_;rintro e w' ⟨rfl,rfl⟩)
 go_ret2
 exact⟨rfl,((Below.refl _ _).alloc (Nat.le_refl _) _).alloc (by simp) _⟩
theorem znB (a b:Int)(w:World)(h0:0<=b)(h1:b<=63):Calls Tryz.prog 257 #[.int .i64 a,.int .i64 b] w λe w'=>e= .returned (.tuple #[.int .i64 (opR 10 a b),.int .u8 (opW 10 a b)])/\Below w.heap.size w w':=by
 go_enter Tryz.func257,Tryz.ntmps257;go_wp2_with fail
 go_in
 go_wp2_with fail;refine(znz a b _ _ _ h0 h1 (by simp) (by simp)).mono ?_;rintro e w' ⟨rfl,n,rfl⟩;go_wp2_with fail
 go_ret2
 exact⟨rfl,below_drewN (((Below.refl _ _).alloc (Nat.le_refl _) _).alloc (by simp) _) _⟩
theorem zot (a b:Int)(w:World)(h:b < 0\/63 < b):Calls Tryz.prog 260 #[.int .i64 a,.int .i64 b] w λe w'=>e= .returned (.tuple #[.int .i64 (opR 11 a b),.int .u8 (opW 11 a b)])/\Below w.heap.size w w':=by
 have e1:opR 11 a b=0:=by simp[opR,h]
 have e2:opW 11 a b=4:=by simp[opW,h]
 rw[e1,e2];clear e1 e2;go_enter Tryz.func260,Tryz.ntmps260;go_wp2_with (go_at_call 258;refine(zeI _ _ _ h).mono ?_;rintro e w' ⟨rfl,rfl⟩)
 go_ret2
 exact⟨rfl,((Below.refl _ _).alloc (Nat.le_refl _) _).alloc (by simp) _⟩
theorem znC (a b:Int)(w:World)(h0:0<=b)(h1:b<=63):Calls Tryz.prog 260 #[.int .i64 a,.int .i64 b] w λe w'=>e= .returned (.tuple #[.int .i64 (opR 11 a b),.int .u8 (opW 11 a b)])/\Below w.heap.size w w':=by
 go_enter Tryz.func260,Tryz.ntmps260;go_wp2_with fail
 go_in
 go_wp2_with fail;refine(znA a b _ _ _ h0 h1 (by simp) (by simp)).mono ?_;rintro e w' ⟨rfl,n,rfl⟩;go_wp2_with fail
 go_ret2
 exact⟨rfl,below_drewN (((Below.refl _ _).alloc (Nat.le_refl _) _).alloc (by simp) _) _⟩
