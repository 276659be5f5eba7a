/-
  Plain law on numbers of 64 bits: what an operation gives, and what goes wrong. No program is in sight but for 'wrap64'.
-/
import Derived.WalkKit
import Derived.Test.YtobegfbdedgmpaaGreatDoorRows
import Derived.WalkSpells
import Derived.WalkLawsBesides
import Derived.Lib.Hide
import Derived.Deep.QuietTactic
import Derived.BigQuiet
import Derived.Laws.EntriesVeiled
import Derived.Test.YtobegfbdedgmpaaGreatDoorJnCk3
set_option linter.unusedVariables false
set_option linter.unusedSimpArgs false
namespace Go.Proofs.YtobegfbdedgmpaaGreatDoor
open Go.RowKit

def okR (b:Bool) (n:Int):Int:=if b then n else 0
def okW (b:Bool):Int:=if b then 0 else 2

def zah (n:Int):Bool:=decide (-9223372036854775808≤n∧n≤9223372036854775807)

def opR (k a b:Int):Int:=
 if k=4 then okR (zah (-a)) (-a)
 else if k=5 then okR (zah (a+b)) (a+b)
 else if k=6 then okR (zah (a - b)) (a - b)
 else if k=7 then okR (zah (a*b)) (a*b)
 else if k=8 then(if b=0 then 0 else okR (zah (a.tdiv b)) (a.tdiv b))
 else if k=9 then(if b=0 then 0 else a.tmod b)
 else if k=10 then(if b < 0∨63 < b then 0 else okR (zah (a*2 ^ b.toNat)) (a*2 ^ b.toNat))
 else(if b < 0∨63 < b then 0 else a / 2 ^ b.toNat)
def opW (k a b:Int):Int:=
 if k=4 then okW (zah (-a))
 else if k=5 then okW (zah (a+b))
 else if k=6 then okW (zah (a - b))
 else if k=7 then okW (zah (a*b))
 else if k=8 then(if b=0 then 3 else okW (zah (a.tdiv b)))
 else if k=9 then(if b=0 then 3 else 0)
 else if k=10 then(if b < 0∨63 < b then 4 else okW (zah (a*2 ^ b.toNat)))
 else(if b < 0∨63 < b then 4 else 0)

def is64 (n:Int):Prop:= -9223372036854775808≤n∧n≤9223372036854775807

theorem zj2 {b c:Bool} {m n:Int} (h:b=c) (hn:c=true→m=n):okR b m=okR c n:=by
 subst h
 cases b
 ·rfl
 ·simp[okR,hn rfl]

theorem neg_b (a:Int) (ha:is64 a):(a != -9223372036854775808)=zah (-a):=by
 unfold is64 at ha
 rw[Bool.eq_iff_iff]
 simp[zah]
 omega
theorem zb8 (n:Int) (h:zah n=true):wrap64 n=n:=by
 simp[zah]at h
 unfold wrap64
 omega
theorem add_b (a b:Int) (ha:is64 a) (hb:is64 b):(decide (wrap64 (a+b) < a)==decide (b < 0))=zah (a+b):=by
 unfold is64 at ha hb
 rw[Bool.eq_iff_iff]
 unfold wrap64 zah
 simp only[beq_iff_eq,decide_eq_decide,decide_eq_true_eq]
 omega
theorem sub_b (a b:Int) (ha:is64 a) (hb:is64 b):(decide (a < wrap64 (a - b))==decide (b < 0))=zah (a - b):=by
 unfold is64 at ha hb
 rw[Bool.eq_iff_iff]
 unfold wrap64 zah
 simp only[beq_iff_eq,decide_eq_decide,decide_eq_true_eq]
 omega
end Go.Proofs.YtobegfbdedgmpaaGreatDoor
namespace Go.Proofs.YtobegfbdedgmpaaGreatDoor
open Go.RowKit
theorem zek {b:Bool} {X n:Int} (h:b=zah n) (hx:zah n=true→X=n):
  Ending.returned (.tuple #[.int .i64 (okR b X),.int .u8 (okW b)])=Ending.returned (.tuple #[.int .i64 (okR (zah n) n),.int .u8 (okW (zah n))]):=by
 rw[h,zj2 (b:=zah n) rfl hx]

theorem zeR {n:Int} (h:is64 n):zah n=true:=by simpa[zah,is64]using h
theorem zhj (n:Nat):(0:Int) < 2 ^ n:=Int.pow_pos (by omega)
theorem zj3 (n:Nat) (h:n≤63):∃k:Int,(18446744073709551616:Int)=k*2 ^ n:=by
 refine⟨2 ^ (64 - n),?_⟩
 rw[←Int.pow_add,show 64 - n+n=64 from by omega]
 decide
theorem zj4 (x:Int):∃k:Int,wrap64 x=x+k*18446744073709551616:=by
 refine⟨-((x+9223372036854775808) / 18446744073709551616),?_⟩
 unfold wrap64
 omega
theorem zj5 (x:Int):is64 (wrap64 x):=by
 unfold wrap64 is64
 omega
theorem shl_b (a b:Int) (h0:0≤b) (h1:b≤63):(wrap64 (a*2 ^ b.toNat) / 2 ^ b.toNat==a)=zah (a*2 ^ b.toNat):=by
 have hp:=zhj b.toNat
 rw[Bool.eq_iff_iff]
 constructor
 ·intro h
  have h:=eq_of_beq h
  obtain⟨k,hk⟩:=zj4 (a*2 ^ b.toNat)
  obtain⟨m,hm⟩:=zj3 b.toNat (by omega)
  have hw:=zj5 (a*2 ^ b.toNat)
  have e:wrap64 (a*2 ^ b.toNat)=(a+k*m)*2 ^ b.toNat:=by
   rw[hk,hm,Int.add_mul,Int.mul_assoc]
  rw[e,Int.mul_ediv_cancel _ (by omega)]at h
  have e2:wrap64 (a*2 ^ b.toNat)=a*2 ^ b.toNat:=by rw[e,h]
  rw[e2]at hw
  exact zeR hw
 ·intro h
  rw[zb8 _ h,Int.mul_ediv_cancel _ (by omega)]
  simp
theorem zcT (n b:Int) (hn:is64 n) (h:¬(n= -9223372036854775808∧b= -1)):is64 (n.tdiv b):=by
 unfold is64 at*
 by_cases h0:b=0
 ·subst h0
  simp
 by_cases h1:b=1
 ·subst h1
  simpa using hn
 by_cases h2:b= -1
 ·subst h2
  rw[Int.tdiv_neg,Int.tdiv_one]
  omega
 have hh:(n.tdiv b).natAbs =n.natAbs / b.natAbs:=Int.natAbs_tdiv n b
 have:n.natAbs / b.natAbs≤n.natAbs / 2:=Nat.div_le_div_left (by omega) (by omega)
 omega
theorem zj6 (n b:Int) (hn:is64 n) (h:¬(n= -9223372036854775808∧b= -1)):wrap64 (n.tdiv b)=n.tdiv b:=
 zb8 _ (zeR (zcT n b hn h))
theorem zlK (a b:Int) (A B:Int) (h:(A=a∧B=b)∨(A= -a∧B= -b)):A*B=a*b:=by
 rcases h with⟨rfl,rfl⟩|⟨rfl,rfl⟩
 ·rfl
 ·rw[Int.neg_mul_neg]
theorem mul_one (a b:Int) (A B:Int) (h:(A= -a∧B=b)∨(A=a∧B= -b)):A*B= -(a*b):=by
 rcases h with⟨rfl,rfl⟩|⟨rfl,rfl⟩
 ·rw[Int.neg_mul]
 ·rw[Int.mul_neg]
end Go.Proofs.YtobegfbdedgmpaaGreatDoor

namespace Go.Proofs.YtobegfbdedgmpaaGreatDoor
open Go.RowKit

theorem zin (n:Int) (w:World):Calls Tryz.prog 146 #[.int .i64 n,.bool true] w fun e w'=>e= .returned (.tuple #[.int .i64 n,.int .u8 0])∧w=w':=by
 go_enter Tryz.func146,Tryz.ntmps146
 go_wp2
 go_ret2
 exact⟨rfl,rfl⟩
theorem zj7 (n:Int) (w:World):Calls Tryz.prog 146 #[.int .i64 n,.bool false] w fun e w'=>e= .returned (.tuple #[.int .i64 0,.int .u8 2])∧w=w':=by
 go_enter Tryz.func146,Tryz.ntmps146
 go_wp2
 go_ret2
 exact⟨rfl,rfl⟩
theorem zaT (n:Int) (b:Bool) (w:World):Calls Tryz.prog 146 #[.int .i64 n,.bool b] w fun e w'=>e= .returned (.tuple #[.int .i64 (okR b n),.int .u8 (okW b)])∧w=w':=by
 cases b
 ·exact zj7 n w
 ·exact zin n w

def zar (vs:List Int) (ls:List (List Int)) (k n:Int) (l:List Int):Int:=
 if k=1 then n else if k=2 then vs.getD n.toNat 0 else if k=3 then(ls.getD n.toNat []).getD (l.getD 0 0).toNat 0 else opR k (l.getD 0 0) (l.getD 1 0)
def zas (ls:List (List Int)) (k n:Int) (l:List Int):Int:=
 if k=1 then 0 else if k=2 then 0 else if k=3 then(if 0≤l.getD 0 0∧l.getD 0 0 < (ls.getD n.toNat []).length then 0 else 5)else opW k (l.getD 0 0) (l.getD 1 0)
def zag (vs:List Int) (ls:List (List Int)):Exs→List Int
 | .nil => []
 | .cons k _ n args _ rest=>zar vs ls k n (zag vs ls args)::zag vs ls rest
def fltX (vs:List Int) (ls:List (List Int)):Exs→Int×Int
 | .nil =>(0,0)
 | .cons k _ n args at_ rest=>
  if(fltX vs ls args).1 =0 then(if zas ls k n (zag vs ls args)=0 then fltX vs ls rest else(zas ls k n (zag vs ls args),at_))else fltX vs ls args
def zao (vs:List Int) (ls:List (List Int)) (k n:Int) (args:Exs) (at_:Int):Int×Int:=
 if(fltX vs ls args).1 =0 then(if zas ls k n (zag vs ls args)=0 then(0,0)else(zas ls k n (zag vs ls args),at_))else fltX vs ls args
theorem zbm (vs:List Int) (ls:List (List Int)) (k:Int) (nm:ByteArray) (n:Int) (args:Exs) (at_:Int) (rest:Exs):
  fltX vs ls (.cons k nm n args at_ rest)=if(zao vs ls k n args at_).1 =0 then fltX vs ls rest else zao vs ls k n args at_:=by
 rw[fltX,zao]
 by_cases h:(fltX vs ls args).1 =0
 ·by_cases h2:zas ls k n (zag vs ls args)=0<;>simp[h,h2]
 ·simp[h]
theorem zfQ {vs:List Int} {ls:List (List Int)} {k n:Int} {args:Exs} {at_:Int} {f:Int×Int} (h:fltX vs ls args=f) (h0:f.1≠0):zao vs ls k n args at_=f:=by
 rw[zao,h,if_neg h0]
theorem zcl {vs:List Int} {ls:List (List Int)} {k n:Int} {args:Exs} {at_:Int} (h:(zao vs ls k n args at_).1 =0):zao vs ls k n args at_=(0,0):=by
 rw[zao]at h ⊢
 by_cases h1:(fltX vs ls args).1 =0
 ·rw[if_pos h1]at h ⊢
  by_cases h2:zas ls k n (zag vs ls args)=0
  ·rw[if_pos h2]
  ·rw[if_neg h2]at h
   exact absurd h h2
 ·rw[if_neg h1]at h
  exact absurd h h1
theorem zfR (vs:List Int) (ls:List (List Int)):∀xs:Exs,(zag vs ls xs).length =xs.len
 | .nil =>rfl
 | .cons _ _ _ _ _ rest=>by simp[zag,Exs.len,zfR vs ls rest]
theorem zel (vs:List Int) (ls:List (List Int)):∀(i:Nat) (xs:Exs),zag vs ls (Exs.drop i xs)=(zag vs ls xs).drop i
 |0,xs=>by simp[Exs.drop]
 |i+1,.nil =>by simp[Exs.drop,zag]
 |i+1,.cons _ _ _ _ _ rest=>by simp[Exs.drop,zag,zel vs ls i rest]
theorem zlL (vs:List Int) (ls:List (List Int)) {i:Nat} {xs:Exs} {k:Int} {nm:ByteArray} {n:Int} {args:Exs} {at_:Int} {rest:Exs} (hd:Exs.drop i xs= .cons k nm n args at_ rest):
  (zag vs ls xs)[i]?=some (zar vs ls k n (zag vs ls args)):=by
 have:=zel vs ls i xs
 rw[hd,zag]at this
 have h2:((zag vs ls xs).drop i)[0]?=some (zar vs ls k n (zag vs ls args)):=by rw[←this];rfl
 simpa using h2
theorem zj8 (vs:List Int) (ls:List (List Int)) {i:Nat} {xs:Exs} {k:Int} {nm:ByteArray} {n:Int} {args:Exs} {at_:Int} {rest:Exs} (hd:Exs.drop i xs= .cons k nm n args at_ rest)
  (h:fltX vs ls xs=fltX vs ls (Exs.drop i xs)):(zao vs ls k n args at_).1 =0→fltX vs ls xs=fltX vs ls (Exs.drop (i+1) xs):=by
 intro h0
 rw[h,hd,zbm,if_pos h0,Exs.drop_succ i xs hd]
theorem zj9 (vs:List Int) (ls:List (List Int)) {i:Nat} {xs:Exs} {k:Int} {nm:ByteArray} {n:Int} {args:Exs} {at_:Int} {rest:Exs} (hd:Exs.drop i xs= .cons k nm n args at_ rest)
  (h:fltX vs ls xs=fltX vs ls (Exs.drop i xs)):(zao vs ls k n args at_).1 ≠0→fltX vs ls xs=zao vs ls k n args at_:=by
 intro h0
 rw[h,hd,zbm,if_neg h0]

def ArAt (w:World) (B:Nat) (ls:List (List Int)) (b o:Nat):Prop:=
 b < B∧∀(i:Nat) (l:List Int),ls[i]?=some l→∃A c,w.cell? ⟨b,o+i,none⟩=some (.slice A l.length c)∧IsSl w B l A c
def ArSl (w:World) (B:Nat) (ls:List (List Int)) (A:Option Addr) (c:Nat):Prop:=
 ls.length≤c∧c≤9223372036854775807∧(0 < ls.length→∃b o,A=some ⟨b,o,none⟩∧ArAt w B ls b o)
theorem ArAt.keep {w w':World} {B:Nat} (h:Same B w w') {l:List (List Int)} {b o:Nat} (hx:ArAt w B l b o):ArAt w' B l b o:=
 ⟨hx.1,fun i n hi=>by obtain⟨A,c,hc,hs⟩:=hx.2 i n hi;exact⟨A,c,(h _ hx.1).trans hc,hs.keep h⟩⟩
theorem ArSl.keep {w w':World} {B:Nat} {l:List (List Int)} {A:Option Addr} {c:Nat} (h:Same B w w') (hx:ArSl w B l A c):ArSl w' B l A c:=
 ⟨hx.1,hx.2.1,fun hp=>by obtain⟨b,o,e,hh⟩:=hx.2.2 hp;exact⟨b,o,e,hh.keep h⟩⟩
structure StSl (w:World) (B:Nat) (vs:List Int) (ls:List (List Int)) (Av:Option Addr) (cv:Nat) (Aa:Option Addr) (ca:Nat):Prop where
 vars:IsSl w B vs Av cv
 arrs:ArSl w B ls Aa ca
theorem StSl.keep {w w':World} {B:Nat} {vs:List Int} {ls:List (List Int)} {Av:Option Addr} {cv:Nat} {Aa:Option Addr} {ca:Nat} (h:Same B w w') (hx:StSl w B vs ls Av cv Aa ca):StSl w' B vs ls Av cv Aa ca:=
 ⟨hx.vars.keep h,hx.arrs.keep h⟩
def stV (Av:Option Addr) (nv cv:Nat) (Aa:Option Addr) (na ca:Nat):Value:= .agg #[.slice Av nv cv,.slice Aa na ca]

abbrev fault (F:TypeId) (f:Int×Int):Ending:= .panicked [{v:= .iface F (.agg #[.int .u8 f.1,.int .i64 f.2]),recovered:=false}]
def zay (F:TypeId) (v:Int) (f:Int×Int) (W:World) (e:Ending) (w':World):Prop:=e=(if f.1=0 then .returned (.int .i64 v)else fault F f)∧Below W.heap.size W w'

theorem zb9 {F:TypeId} {v:Int} {f:Int×Int} {W:World} (h:f.1=0) {e:Ending} {w':World} (he:e= .returned (.int .i64 v)) (hb:Below W.heap.size W w'):zay F v f W e w':=
 ⟨by rw[if_pos h];exact he,hb⟩
theorem zcU {F:TypeId} {v:Int} {f:Int×Int} {W:World} (h:f.1≠0) {e:Ending} {w':World} (he:e=fault F f) (hb:Below W.heap.size W w'):zay F v f W e w':=
 ⟨by rw[if_neg h];exact he,hb⟩

theorem zlM (b:Bool) (n:Int) (h:b=true→is64 n):is64 (okR b n):=by
 cases b
 ·simp[okR,is64]
 ·exact h rfl
theorem zca (n:Int):is64 (okR (zah n) n):=zlM _ _ fun h=>by simpa[zah,is64]using h
theorem zlN (k a b:Int) (ha:is64 a):is64 (opR k a b):=by
 have z:is64 0:=by simp[is64]
 unfold opR
 split;exact zca _
 split;exact zca _
 split;exact zca _
 split;exact zca _
 split
 ·split
  ·exact z
  ·exact zca _
 split
 ·split
  ·exact z
  ·have:(a.tmod b).natAbs ≤a.natAbs:=by rw[Int.natAbs_tmod];exact Nat.mod_le _ _
   by_cases h:0≤a
   ·have:=Int.tmod_nonneg b h
    unfold is64 at*;omega
   ·have h2:=Int.tmod_nonneg b (show 0≤ -a by omega)
    rw[Int.neg_tmod]at h2
    unfold is64 at*;omega
 split
 ·split
  ·exact z
  ·exact zca _
 ·split
  ·exact z
  ·have h1:(1:Int)≤2 ^ b.toNat:=zhj b.toNat
   generalize (2:Int) ^ b.toNat=p at h1
   unfold is64 at*
   have h2:a / p*p+a % p=a:=Int.ediv_mul_add_emod a p
   have h3:=Int.emod_nonneg a (show p≠0 by omega)
   have h4:=Int.emod_lt_of_pos a (show 0 < p by omega)
   constructor
   ·by_cases hn:0≤a
    ·have:=Int.ediv_nonneg hn (show 0≤p by omega);omega
    ·have:=Int.le_ediv_of_mul_le (a:= -9223372036854775808) (b:=a) (c:=p) (by omega) (by
      have:(9223372036854775808:Int)*1≤9223372036854775808*p:=Int.mul_le_mul_of_nonneg_left h1 (by omega)
      omega)
     exact this
   ·by_cases hn:0≤a
    ·have:=Int.ediv_le_self p hn;omega
    ·have:a / p < 0:=Int.ediv_neg_of_neg_of_pos (by omega) (by omega)
     omega
def St64 (vs:List Int) (ls:List (List Int)):Prop:=(∀n∈vs,is64 n)∧∀l∈ls,∀n∈l,is64 n
theorem zbn {l:List Int} (h:∀n∈l,is64 n) (i:Nat):is64 (l.getD i 0):=by
 rw[List.getD_eq_getElem?_getD]
 cases hi:l[i]? with
 |none=>simp[is64]
 |some n=>exact h n (List.mem_of_getElem? hi)
theorem zgD {vs:List Int} {ls:List (List Int)} (h:St64 vs ls) {k n:Int} {l:List Int} (hn:is64 n) (hl:∀x∈l,is64 x):is64 (zar vs ls k n l):=by
 unfold zar
 split;exact hn
 split;exact zbn h.1 _
 split
 ·refine zbn (fun x hx=>?_) _
  rw[List.getD_eq_getElem?_getD]at hx
  cases hi:ls[n.toNat]? with
  |none=>rw[hi]at hx;simp at hx
  |some l2=>rw[hi]at hx;exact h.2 l2 (List.mem_of_getElem? hi) x hx
 ·exact zlN _ _ _ (zbn hl 0)
def Ns64:Exs→Prop
 | .nil =>True
 | .cons _ _ n args _ rest=>is64 n∧Ns64 args∧Ns64 rest
theorem zbe {vs:List Int} {ls:List (List Int)} (h:St64 vs ls):∀ {xs:Exs},Ns64 xs→∀x∈zag vs ls xs,is64 x
 | .nil,_,x,hx=>by simp[zag]at hx
 | .cons k nm n args at_ rest,hn,x,hx=>by
  simp only[zag,List.mem_cons]at hx
  rcases hx with rfl|hx
  ·exact zgD h hn.1 (zbe h hn.2.1)
  ·exact zbe h hn.2.2 x hx

open Go.RowKit Go.Shelf

theorem zgE {w:World} {B:Nat}:∀ {xs:Exs} {b o:Nat},ExAt w B xs b o→Ns64 xs
 | .nil,_,_,_=>trivial
 | .cons k nm n args at_ rest,b,o,hx=>by
  obtain⟨hb,h0,h1,h2,⟨A,c,h3,hl,hc,ha⟩,h4,r0,r1,r2,hr⟩:=hx
  refine⟨r1,?_,zgE hr⟩
  cases args with
  |nil=>trivial
  |cons a b2 c2 d e f=>
   obtain⟨b',o',e',hx'⟩:=ha (by simp[Exs.len])
   exact zgE hx'
theorem zgF {w:World} {B:Nat} {xs:Exs} {A:Option Addr} {c:Nat} (hx:ExSl w B xs A c):Ns64 xs:=by
 cases xs with
 |nil=>trivial
 |cons a b2 c2 d e f=>
  obtain⟨b',o',e',hx'⟩:=hx.2.2 (by simp[Exs.len])
  exact zgE hx'
theorem zka {w:World} {B:Nat} {l:List Int} {A:Option Addr} {c:Nat} (hx:IsSl w B l A c):∀n∈l,is64 n:=by
 intro n hn
 obtain⟨i,hi,rfl⟩:=List.mem_iff_getElem.1 hn
 obtain⟨b,o,_,hh⟩:=hx.2.2 (by omega)
 exact(hh.2 i _ (List.getElem?_eq_getElem hi)).2
end Go.Proofs.YtobegfbdedgmpaaGreatDoor
