/- Plain. -/
import Derived.Deep.AppendLies
import Derived.Deep.RegionHeld3
import Derived.Deep.DrawnRows
import Derived.StillTailTactics
import Derived.Test.YtfomomaomggpbaaGreatDoorTrOpen
set_option linter.all false
namespace Go.Proofs.YtfomomaomggpbaaGreatDoor
open Go.RowKit
def okR (b:Bool)(n:Int):Int:=if b then n else 0
def okW (b:Bool):Int:=if b then 0 else 2
def zan (n:Int):Bool:=decide (-9223372036854775808<=n/\n<=9223372036854775807)
def opR (k a b:Int):Int:=
 if k=4 then okR (zan (-a)) (-a)
 else if k=5 then okR (zan (a+b)) (a+b)
 else if k=6 then okR (zan (a - b)) (a - b)
 else if k=7 then okR (zan (a*b)) (a*b)
 else if k=8 then(if b=0 then 0 else okR (zan (a.tdiv b)) (a.tdiv b))
 else if k=9 then(if b=0 then 0 else a.tmod b)
 else if k=10 then(if b < 0\/63 < b then 0 else okR (zan (a*2 ^ b.toNat)) (a*2 ^ b.toNat))
 else(if b < 0\/63 < b then 0 else a / 2 ^ b.toNat)
def opW (k a b:Int):Int:=
 if k=4 then okW (zan (-a))
 else if k=5 then okW (zan (a+b))
 else if k=6 then okW (zan (a - b))
 else if k=7 then okW (zan (a*b))
 else if k=8 then(if b=0 then 3 else okW (zan (a.tdiv b)))
 else if k=9 then(if b=0 then 3 else 0)
 else if k=10 then(if b < 0\/63 < b then 4 else okW (zan (a*2 ^ b.toNat)))
 else(if b < 0\/63 < b then 4 else 0)
def is64 (n:Int):Prop:= -9223372036854775808<=n/\n<=9223372036854775807
theorem zkV {b c:Bool}{m n:Int}(h:b=c)(hn:c=true->m=n):okR b m=okR c n:=by
 subst h;cases b
 ·rfl
 ·simp[okR,hn rfl]
theorem neg_b (a:Int)(ha:is64 a):(a != -9223372036854775808)=zan (-a):=by
 unfold is64 at ha;rw[Bool.eq_iff_iff];simp[zan];omega
theorem zcn (n:Int)(h:zan n=true):wrap64 n=n:=by
 simp[zan]at h;unfold wrap64;omega
theorem add_b (a b:Int)(ha:is64 a)(hb:is64 b):(decide (wrap64 (a+b) < a)==decide (b < 0))=zan (a+b):=by
 unfold is64 at ha hb;rw[Bool.eq_iff_iff];unfold wrap64 zan;simp only[beq_iff_eq,decide_eq_decide,decide_eq_true_eq];omega
theorem sub_b (a b:Int)(ha:is64 a)(hb:is64 b):(decide (a < wrap64 (a - b))==decide (b < 0))=zan (a - b):=by
 unfold is64 at ha hb;rw[Bool.eq_iff_iff];unfold wrap64 zan;simp only[beq_iff_eq,decide_eq_decide,decide_eq_true_eq];omega
theorem zfj {b:Bool}{X n:Int}(h:b=zan n)(hx:zan n=true->X=n):
  Ending.returned (.tuple #[.int .i64 (okR b X),.int .u8 (okW b)])=Ending.returned (.tuple #[.int .i64 (okR (zan n) n),.int .u8 (okW (zan n))]):=by
 rw[h,zkV (b:=zan n) rfl hx]
theorem zfT {n:Int}(h:is64 n):zan n=true:=by simpa[zan,is64]using h
theorem zim (n:Nat):(0:Int) < 2 ^ n:=Int.pow_pos (by omega)
theorem zkW (n:Nat)(h:n<=63):∃k:Int,(18446744073709551616:Int)=k*2 ^ n:=by
 refine⟨2 ^ (64 - n),?_⟩;rw[<-Int.pow_add,show 64 - n+n=64 from by omega]
 decide
theorem zkX (x:Int):∃k:Int,wrap64 x=x+k*18446744073709551616:=by
 refine⟨-((x+9223372036854775808) / 18446744073709551616),?_⟩;unfold wrap64;omega
theorem zkY (x:Int):is64 (wrap64 x):=by
 unfold wrap64 is64;omega
theorem shl_b (a b:Int)(h0:0<=b)(h1:b<=63):(wrap64 (a*2 ^ b.toNat) / 2 ^ b.toNat==a)=zan (a*2 ^ b.toNat):=by
 have hp:=zim b.toNat;rw[Bool.eq_iff_iff];constructor
 ·intro h;have h:=eq_of_beq h;obtain⟨k,hk⟩:=zkX (a*2 ^ b.toNat);obtain⟨m,hm⟩:=zkW b.toNat (by omega);have hw:=zkY (a*2 ^ b.toNat);have e:wrap64 (a*2 ^ b.toNat)=(a+k*m)*2 ^ b.toNat:=by
   rw[hk,hm,Int.add_mul,Int.mul_assoc]
  rw[e,Int.mul_ediv_cancel _ (by omega)]at h;have e2:wrap64 (a*2 ^ b.toNat)=a*2 ^ b.toNat:=by rw[e,h]
  rw[e2]at hw;exact zfT hw
 ·intro h;rw[zcn _ h,Int.mul_ediv_cancel _ (by omega)];simp
theorem zds (n b:Int)(hn:is64 n)(h:¬(n= -9223372036854775808/\b= -1)):is64 (n.tdiv b):=by
 unfold is64 at*;by_cases h0:b=0
 ·subst h0;simp
 by_cases h1:b=1
 ·subst h1;simpa using hn
 by_cases h2:b= -1
 ·subst h2;rw[Int.tdiv_neg,Int.tdiv_one];omega
 have hh:(n.tdiv b).natAbs =n.natAbs / b.natAbs:=Int.natAbs_tdiv n b;have:n.natAbs / b.natAbs<=n.natAbs / 2:=Nat.div_le_div_left (by omega) (by omega);omega
theorem zkZ (n b:Int)(hn:is64 n)(h:¬(n= -9223372036854775808/\b= -1)):wrap64 (n.tdiv b)=n.tdiv b:=
 zcn _ (zfT (zds n b hn h))
theorem znb (a b:Int)(A B:Int)(h:(A=a/\B=b)\/(A= -a/\B= -b)):A*B=a*b:=by
 rcases h with⟨rfl,rfl⟩|⟨rfl,rfl⟩
 ·rfl
 ·rw[Int.neg_mul_neg]
theorem mul_one (a b:Int)(A B:Int)(h:(A= -a/\B=b)\/(A=a/\B= -b)):A*B= -(a*b):=by
 rcases h with⟨rfl,rfl⟩|⟨rfl,rfl⟩
 ·rw[Int.neg_mul]
 ·rw[Int.mul_neg]
theorem zjl (n:Int)(w:World):Calls Tryz.prog 250 #[.int .i64 n,.bool true] w λe w'=>e= .returned (.tuple #[.int .i64 n,.int .u8 0])/\w=w':=by
 go_enter Tryz.func250,Tryz.ntmps250;go_wp2
 go_ret2
 exact⟨rfl,rfl⟩
theorem zk0 (n:Int)(w:World):Calls Tryz.prog 250 #[.int .i64 n,.bool false] w λe w'=>e= .returned (.tuple #[.int .i64 0,.int .u8 2])/\w=w':=by
 go_enter Tryz.func250,Tryz.ntmps250;go_wp2
 go_ret2
 exact⟨rfl,rfl⟩
theorem zaY (n:Int)(b:Bool)(w:World):Calls Tryz.prog 250 #[.int .i64 n,.bool b] w λe w'=>e= .returned (.tuple #[.int .i64 (okR b n),.int .u8 (okW b)])/\w=w':=by
 cases b
 ·exact zk0 n w
 ·exact zjl n w
open Go.RowKit Go.Shelf
/-! numbers -/
def IsAt (w:World)(B:Nat)(l:List Int)(b o:Nat):Prop:=b < B/\∀(i:Nat)(n:Int),l[i]?=some n->w.cell? ⟨b,o+i,none⟩=some (.int .i64 n)/\in64 n
def IsSl (w:World)(B:Nat)(l:List Int)(A:Option Addr)(c:Nat):Prop:=
 l.length<=c/\c<=9223372036854775807/\(0 < l.length->∃b o,A=some ⟨b,o,none⟩/\IsAt w B l b o)
theorem IsAt.keep {w w':World}{B:Nat}(h:Same B w w'){l:List Int}{b o:Nat}(hx:IsAt w B l b o):IsAt w' B l b o:=
 ⟨hx.1,λi n hi=>⟨(h _ hx.1).trans (hx.2 i n hi).1,(hx.2 i n hi).2⟩⟩
theorem IsSl.keep {w w':World}{B:Nat}{l:List Int}{A:Option Addr}{c:Nat}(h:Same B w w')(hx:IsSl w B l A c):IsSl w' B l A c:=
 ⟨hx.1,hx.2.1,λhp=>by obtain⟨b,o,e,hh⟩:=hx.2.2 hp;exact⟨b,o,e,hh.keep h⟩⟩
open Go.RowKit Go.Shelf Go.Maps
attribute [local go_sem ↓] Go.wp_at_zero Go.wp_at_succ
def ArAt (w:World)(B:Nat)(ls:List (List Int))(b o:Nat):Prop:=
 b < B/\∀(i:Nat)(l:List Int),ls[i]?=some l->∃A c,w.cell? ⟨b,o+i,none⟩=some (.slice A l.length c)/\IsSl w B l A c
def ArSl (w:World)(B:Nat)(ls:List (List Int))(A:Option Addr)(c:Nat):Prop:=
 ls.length<=c/\c<=9223372036854775807/\(0 < ls.length->∃b o,A=some ⟨b,o,none⟩/\ArAt w B ls b o)
theorem ArAt.keep {w w':World}{B:Nat}(h:Same B w w'){l:List (List Int)}{b o:Nat}(hx:ArAt w B l b o):ArAt w' B l b o:=
 ⟨hx.1,λi n hi=>by obtain⟨A,c,hc,hs⟩:=hx.2 i n hi;exact⟨A,c,(h _ hx.1).trans hc,hs.keep h⟩⟩
theorem ArSl.keep {w w':World}{B:Nat}{l:List (List Int)}{A:Option Addr}{c:Nat}(h:Same B w w')(hx:ArSl w B l A c):ArSl w' B l A c:=
 ⟨hx.1,hx.2.1,λhp=>by obtain⟨b,o,e,hh⟩:=hx.2.2 hp;exact⟨b,o,e,hh.keep h⟩⟩
structure StSl (w:World)(B:Nat)(vs:List Int)(ls:List (List Int))(Av:Option Addr)(cv:Nat)(Aa:Option Addr)(ca:Nat):Prop where
 vars:IsSl w B vs Av cv
 arrs:ArSl w B ls Aa ca
theorem StSl.keep {w w':World}{B:Nat}{vs:List Int}{ls:List (List Int)}{Av:Option Addr}{cv:Nat}{Aa:Option Addr}{ca:Nat}(h:Same B w w')(hx:StSl w B vs ls Av cv Aa ca):StSl w' B vs ls Av cv Aa ca:=
 ⟨hx.vars.keep h,hx.arrs.keep h⟩
abbrev fault (F:TypeId)(f:Int×Int):Ending:= .panicked [{v:= .iface F (.agg #[.int .u8 f.1,.int .i64 f.2]),recovered:=false}]
theorem znc (b:Bool)(n:Int)(h:b=true->is64 n):is64 (okR b n):=by
 cases b
 ·simp[okR,is64]
 ·exact h rfl
theorem zco (n:Int):is64 (okR (zan n) n):=znc _ _ λh=>by simpa[zan,is64]using h
theorem znd (k a b:Int)(ha:is64 a):is64 (opR k a b):=by
 have z:is64 0:=by simp[is64]
 unfold opR;split;exact zco _
 split;exact zco _
 split;exact zco _
 split;exact zco _
 split
 ·split
  ·exact z
  ·exact zco _
 split
 ·split
  ·exact z
  ·have:(a.tmod b).natAbs <=a.natAbs:=by rw[Int.natAbs_tmod];exact Nat.mod_le _ _
   by_cases h:0<=a
   ·have:=Int.tmod_nonneg b h;unfold is64 at*;omega
   ·have h2:=Int.tmod_nonneg b (show 0<= -a by omega);rw[Int.neg_tmod]at h2;unfold is64 at*;omega
 split
 ·split
  ·exact z
  ·exact zco _
 ·split
  ·exact z
  ·have h1:(1:Int)<=2 ^ b.toNat:=zim b.toNat;generalize (2:Int) ^ b.toNat=p at h1;unfold is64 at*;have h2:a / p*p+a % p=a:=Int.ediv_mul_add_emod a p;have h3:=Int.emod_nonneg a (show p≠0 by omega);have h4:=Int.emod_lt_of_pos a (show 0 < p by omega);constructor
   ·by_cases hn:0<=a
    ·have:=Int.ediv_nonneg hn (show 0<=p by omega);omega
    ·have:=Int.le_ediv_of_mul_le (a:= -9223372036854775808) (b:=a) (c:=p) (by omega) (by
      have:(9223372036854775808:Int)*1<=9223372036854775808*p:=Int.mul_le_mul_of_nonneg_left h1 (by omega);omega)
     exact this
   ·by_cases hn:0<=a
    ·have:=Int.ediv_le_self p hn;omega
    ·have:a / p < 0:=Int.ediv_neg_of_neg_of_pos (by omega) (by omega);omega
def St64 (vs:List Int)(ls:List (List Int)):Prop:=(∀n∈vs,is64 n)/\∀l∈ls,∀n∈l,is64 n
open Go.RowKit Go.ChangeShapes Go.WideShapes Go.Deep
section
variable {H:Type} {enc:TypeId×Value->H} {w:World} {base:Nat} {spare:Nat->Bool} {held:Bool}
set_option maxRecDepth 100000 in
theorem zk1 (fuel:Nat)(v:Value)(x:DataW H×List MemPlace)(h:DataW.trod enc Tryz.prog w base spare held fuel 28 [v]=some x):∃(l:List Int)(A:Option Addr)(c:Nat),v= .slice A l.length c/\IsSl w w.heap.size l A c:=by
 rcases DataW.trod_slice Tryz.underlying28 h with⟨h0,_⟩|⟨a,len,cap,elems,rest,n,hn,Gp,_,_,Pz,G7,Ku,Fy,_⟩
 ·have h0:=(List.cons.inj h0).1;exact⟨[],none,0,h0,by simp,by decide,by simp⟩
 ·have Gp:=(List.cons.inj Gp).1;subst Gp;have key:∀i,i < len->∃m:Int,w.cell? (a.add i)=some (.int .i64 m)/\in64 m:=by
   intro i hi;have h1:=Fy i hi;obtain⟨y,hy⟩:∃y,elems[i]?=some y:=⟨_,List.getElem?_eq_getElem (by omega)⟩;rw[hy]at h1;obtain⟨xh,hc,ht⟩:=Option.bind_eq_some_iff.1 h1;rw[zfS,Nat.mul_one]at hc;obtain⟨_,GC,Hg⟩:=World.cells?_some hc;obtain⟨m,hm,_,hw⟩:=DataW.trod_int Tryz.underlying3 ht;have h2:=Hg 0 (by omega);rw[hm]at h2;exact⟨m,h2,zaP hw⟩
  by_cases hz:0 < len
  ·obtain⟨m0,h0,_⟩:=key 0 hz;have MG:=zb9 (a:=a) h0;have GN:=MG.2;have ad:∀i,a.add i=⟨a.block,a.off+i,none⟩:=λi=>by
    unfold Addr.add;by_cases h1:i=0<;>simp[h1]
    all_goals(cases a;simp_all)
   refine⟨(List.range len).map λi=>if h:i < len then Classical.choose (key i h)else 0,some a,cap,by simp,by simpa using Pz,by simpa[maxLen]using G7,λ_=>⟨a.block,a.off,by cases a;simp_all,MG.1,λi n hi=>?_⟩⟩;rw[List.getElem?_map]at hi;by_cases Nm:i < len
   ·rw[List.getElem?_range Nm]at hi;simp only[Option.map_some,Option.some.injEq,dif_pos Nm]at hi;subst hi;have:=Classical.choose_spec (key i Nm);exact⟨(congrArg w.cell? (ad i)).symm.trans this.1,this.2⟩
   ·rw[List.getElem?_eq_none (by simp;omega)]at hi;exact absurd hi (by simp)
  ·have:len=0:=by omega
   subst this;exact⟨[],some a,cap,rfl,by simp,by simpa[maxLen]using G7,by simp⟩
theorem zfU {fuel:Nat}{v:Value}{x:DataW H×List MemPlace}(h:DataW.trod enc Tryz.prog w base spare held fuel 28 [v]=some x):∃(l:List Int)(A:Option Addr)(c:Nat),v= .slice A l.length c/\IsSl w w.heap.size l A c/\(A=none->c=0):=by
 obtain⟨l,A,c,hv,hs⟩:=zk1 fuel v x h;refine⟨l,A,c,hv,hs,λhA=>?_⟩;rcases DataW.trod_slice Tryz.underlying28 h with⟨h0,_⟩|⟨a,len,cap,elems,rest,n,hn,Gp,_⟩
 ·have h0:=(List.cons.inj h0).1;rw[hv]at h0;injection h0
 ·have h0:=(List.cons.inj Gp).1;rw[hv,hA]at h0;injection h0 with h0;cases h0
end
