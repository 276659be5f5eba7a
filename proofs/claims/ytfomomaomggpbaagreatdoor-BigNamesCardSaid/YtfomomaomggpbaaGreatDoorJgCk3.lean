/-
  Plain law on numbers of 64 bits: what an operation gives, and what goes wrong. No program is in sight but for 'wrap64'.
-/
import Derived.Test.YtfomomaomggpbaaGreatDoorRows
import Derived.WalkSpells
import Derived.WalkLawsBesides
import Derived.Lib.Hide
import Derived.Deep.QuietTactic
import Derived.BigQuiet
import Derived.Laws.EntriesVeiled
import Derived.ChangeSame
import Derived.Deep.OwnRows
import Derived.Test.YtfomomaomggpbaaGreatDoorJnData
import Derived.Deep.AppendLies
import Derived.Shelf.Abstract
import Derived.Outline
import Derived.BigRegion
import Derived.Deep.DeepCutAuto
import Derived.Maps.OwnSet
import Derived.Maps.OwnOps
import Derived.Maps.RangeWalk
import Derived.Deep.RegionHeld3
import Derived.Deep.DrawnRows
import Derived.StillTailTactics
set_option linter.unusedVariables false
set_option linter.unusedSimpArgs false
namespace Go.Proofs.YtfomomaomggpbaaGreatDoor
open Go.RowKit

def okR (b:Bool) (n:Int):Int:=if b then n else 0
def okW (b:Bool):Int:=if b then 0 else 2

def fits64 (n:Int):Bool:=decide (-9223372036854775808≤n∧n≤9223372036854775807)

def opR (k a b:Int):Int:=
 if k=4 then okR (fits64 (-a)) (-a)
 else if k=5 then okR (fits64 (a+b)) (a+b)
 else if k=6 then okR (fits64 (a - b)) (a - b)
 else if k=7 then okR (fits64 (a*b)) (a*b)
 else if k=8 then(if b=0 then 0 else okR (fits64 (a.tdiv b)) (a.tdiv b))
 else if k=9 then(if b=0 then 0 else a.tmod b)
 else if k=10 then(if b < 0∨63 < b then 0 else okR (fits64 (a*2 ^ b.toNat)) (a*2 ^ b.toNat))
 else(if b < 0∨63 < b then 0 else a / 2 ^ b.toNat)
def opW (k a b:Int):Int:=
 if k=4 then okW (fits64 (-a))
 else if k=5 then okW (fits64 (a+b))
 else if k=6 then okW (fits64 (a - b))
 else if k=7 then okW (fits64 (a*b))
 else if k=8 then(if b=0 then 3 else okW (fits64 (a.tdiv b)))
 else if k=9 then(if b=0 then 3 else 0)
 else if k=10 then(if b < 0∨63 < b then 4 else okW (fits64 (a*2 ^ b.toNat)))
 else(if b < 0∨63 < b then 4 else 0)

def is64 (n:Int):Prop:= -9223372036854775808≤n∧n≤9223372036854775807

theorem okR_congr {b c:Bool} {m n:Int} (h:b=c) (hn:c=true→m=n):okR b m=okR c n:=by
 subst h
 cases b
 ·rfl
 ·simp[okR,hn rfl]

theorem neg_b (a:Int) (ha:is64 a):(a != -9223372036854775808)=fits64 (-a):=by
 unfold is64 at ha
 rw[Bool.eq_iff_iff]
 simp[fits64]
 omega
theorem wrap_fit (n:Int) (h:fits64 n=true):wrap64 n=n:=by
 simp[fits64]at h
 unfold wrap64
 omega
theorem add_b (a b:Int) (ha:is64 a) (hb:is64 b):(decide (wrap64 (a+b) < a)==decide (b < 0))=fits64 (a+b):=by
 unfold is64 at ha hb
 rw[Bool.eq_iff_iff]
 unfold wrap64 fits64
 simp only[beq_iff_eq,decide_eq_decide,decide_eq_true_eq]
 omega
theorem sub_b (a b:Int) (ha:is64 a) (hb:is64 b):(decide (a < wrap64 (a - b))==decide (b < 0))=fits64 (a - b):=by
 unfold is64 at ha hb
 rw[Bool.eq_iff_iff]
 unfold wrap64 fits64
 simp only[beq_iff_eq,decide_eq_decide,decide_eq_true_eq]
 omega
end Go.Proofs.YtfomomaomggpbaaGreatDoor
namespace Go.Proofs.YtfomomaomggpbaaGreatDoor
open Go.RowKit
theorem ret_ok {b:Bool} {X n:Int} (h:b=fits64 n) (hx:fits64 n=true→X=n):
  Ending.returned (.tuple #[.int .i64 (okR b X),.int .u8 (okW b)])=Ending.returned (.tuple #[.int .i64 (okR (fits64 n) n),.int .u8 (okW (fits64 n))]):=by
 rw[h,okR_congr (b:=fits64 n) rfl hx]

theorem fits_of {n:Int} (h:is64 n):fits64 n=true:=by simpa[fits64,is64]using h
theorem pow_pos2 (n:Nat):(0:Int) < 2 ^ n:=Int.pow_pos (by omega)
theorem pow_dvd64 (n:Nat) (h:n≤63):∃k:Int,(18446744073709551616:Int)=k*2 ^ n:=by
 refine⟨2 ^ (64 - n),?_⟩
 rw[←Int.pow_add,show 64 - n+n=64 from by omega]
 decide
theorem wrap_cong (x:Int):∃k:Int,wrap64 x=x+k*18446744073709551616:=by
 refine⟨-((x+9223372036854775808) / 18446744073709551616),?_⟩
 unfold wrap64
 omega
theorem wrap_is64 (x:Int):is64 (wrap64 x):=by
 unfold wrap64 is64
 omega
theorem shl_b (a b:Int) (h0:0≤b) (h1:b≤63):(wrap64 (a*2 ^ b.toNat) / 2 ^ b.toNat==a)=fits64 (a*2 ^ b.toNat):=by
 have hp:=pow_pos2 b.toNat
 rw[Bool.eq_iff_iff]
 constructor
 ·intro h
  have h:=eq_of_beq h
  obtain⟨k,hk⟩:=wrap_cong (a*2 ^ b.toNat)
  obtain⟨m,hm⟩:=pow_dvd64 b.toNat (by omega)
  have hw:=wrap_is64 (a*2 ^ b.toNat)
  have e:wrap64 (a*2 ^ b.toNat)=(a+k*m)*2 ^ b.toNat:=by
   rw[hk,hm,Int.add_mul,Int.mul_assoc]
  rw[e,Int.mul_ediv_cancel _ (by omega)]at h
  have e2:wrap64 (a*2 ^ b.toNat)=a*2 ^ b.toNat:=by rw[e,h]
  rw[e2]at hw
  exact fits_of hw
 ·intro h
  rw[wrap_fit _ h,Int.mul_ediv_cancel _ (by omega)]
  simp
theorem tdiv_small (n b:Int) (hn:is64 n) (h:¬(n= -9223372036854775808∧b= -1)):is64 (n.tdiv b):=by
 unfold is64 at*
 by_cases h0:b=0
 ·subst h0
  simp
 by_cases h1:b=1
 ·subst h1
  simpa using hn
 by_cases h2:b= -1
 ·subst h2
  rw[Int.tdiv_neg,Int.tdiv_one]
  omega
 have hh:(n.tdiv b).natAbs =n.natAbs / b.natAbs:=Int.natAbs_tdiv n b
 have:n.natAbs / b.natAbs≤n.natAbs / 2:=Nat.div_le_div_left (by omega) (by omega)
 omega
theorem wrap_tdiv (n b:Int) (hn:is64 n) (h:¬(n= -9223372036854775808∧b= -1)):wrap64 (n.tdiv b)=n.tdiv b:=
 wrap_fit _ (fits_of (tdiv_small n b hn h))
theorem mul_both (a b:Int) (A B:Int) (h:(A=a∧B=b)∨(A= -a∧B= -b)):A*B=a*b:=by
 rcases h with⟨rfl,rfl⟩|⟨rfl,rfl⟩
 ·rfl
 ·rw[Int.neg_mul_neg]
theorem mul_one (a b:Int) (A B:Int) (h:(A= -a∧B=b)∨(A=a∧B= -b)):A*B= -(a*b):=by
 rcases h with⟨rfl,rfl⟩|⟨rfl,rfl⟩
 ·rw[Int.neg_mul]
 ·rw[Int.mul_neg]
end Go.Proofs.YtfomomaomggpbaaGreatDoor

namespace Go.Proofs.YtfomomaomggpbaaGreatDoor
open Go.RowKit

theorem ranged_yes (n:Int) (w:World):Calls Tryz.prog 250 #[.int .i64 n,.bool true] w fun e w'=>e= .returned (.tuple #[.int .i64 n,.int .u8 0])∧w=w':=by
 go_enter Tryz.func250,Tryz.ntmps250
 go_wp2
 go_ret2
 exact⟨rfl,rfl⟩
theorem ranged_no (n:Int) (w:World):Calls Tryz.prog 250 #[.int .i64 n,.bool false] w fun e w'=>e= .returned (.tuple #[.int .i64 0,.int .u8 2])∧w=w':=by
 go_enter Tryz.func250,Tryz.ntmps250
 go_wp2
 go_ret2
 exact⟨rfl,rfl⟩
theorem ranged_any (n:Int) (b:Bool) (w:World):Calls Tryz.prog 250 #[.int .i64 n,.bool b] w fun e w'=>e= .returned (.tuple #[.int .i64 (okR b n),.int .u8 (okW b)])∧w=w':=by
 cases b
 ·exact ranged_no n w
 ·exact ranged_yes n w

open Go.RowKit Go.WideShapes Go.ChangeShapes

section
variable {H:Type} {enc:TypeId×Value→H} {P:Program}
theorem post_of_below {f:Func} {s:ChangeSpec} {apart fresh handsOn again:Bool} {W W':World} {args:Array Value} {v:Value} {ds gs:List (DataW H)} {before pa pv:List MemPlace}
  (hW:DataW.Whole enc P f.params.toList s.vars apart W args.toList ds gs before)
  (hres:∀(b:Nat) (sp:Nat→Bool) (hd:Bool),DataW.TrodAll enc P W' b sp hd f.resultTypes.toList (v.resultList f.resultTypes.size) (s.fn H (ds++gs)).results [])
  (hargs:∀sp:Nat→Bool,(∀p∈before,sp p.block=true)→DataW.TrodAll enc P W' 0 sp true f.params.toList args.toList (s.fn H (ds++gs)).args pa)
  (hvars:∀sp:Nat→Bool,(∀p∈before,sp p.block=true)→DataW.TrodVars enc P W' sp s.vars (s.fn H (ds++gs)).vars pv)
  (hps:before=pa++pv) (hb:Below W.heap.size W W')
  (hok:∀(j:Nat) (t:TypeId) (r:Value),f.resultTypes[j]?=some t→(v.resultList f.resultTypes.size)[j]?=some r→Value.okWide P W' .any 0 t r):
  s.post enc P f apart fresh handsOn again W args v W':=by
 have hlt:∀p∈before,p.block < W.heap.size:=fun p hp=>hW.lt p hp
 have hold:∀p∈before,(fun b=>decide (b < W.heap.size)) p.block=true:=fun p hp=>by simpa using hlt p hp
 refine⟨ds,gs,before, [],pa,pv,hW,hres _ _ _,hargs _ hold,hvars _ hold,World.keptBut_mono (fun p hp=>⟨hp,?_⟩) (hb.frame (· ∈before)),fun _=>?_⟩
 ·rw[hps,List.mem_append]at hp
  exact Or.inr hp
 ·obtain⟨_,_,_,_,_,hz,hn⟩:=hW
  refine⟨hok,_,_,([]++pa)++pv,⟨[]++pa,pv,trodAll_append (hargs _ (fun _ _=>rfl)) (hres _ _ _),hvars _ (fun _ _=>rfl),rfl,?_,?_⟩,?_⟩
  ·intro b off hp
   have hin:MemPlace.cell b off∈before:=by rw[hps];simpa using hp
   rw[hb.frozen (hlt _ hin)]
   exact hz b off hin
  ·intro ha
   have:=hn ha
   rw[hps]at this
   simpa using this
  ·intro p hp _
   rw[hps]
   simpa using hp
end

theorem only_of_below {a w:World} (h:Below a.heap.size a w) (row:Option Nat):a.grownBy w row:=⟨h.os,h.tape,h.output,h.size,fun i hi _=>h.block i hi⟩

theorem newCell (w:World) (cs:Array Value) (t:TypeId) (i:Nat):(w.alloc (.cells cs t)).cell? ⟨w.heap.size,i,none⟩=cs[i]?:=by
 simp
theorem makeF {P:Program} (fn:Fn) (first cap:Array Value) (w:World):(Instr.makeFunc fn first cap).run P w= .ok (.func fn first cap) w:=rfl
end Go.Proofs.YtfomomaomggpbaaGreatDoor

namespace Go.Proofs.YtfomomaomggpbaaGreatDoor
open Go.RowKit

structure HeldW (S:World→Prop) where
 w:World
 h:S w
theorem wp_region_held {P:Program} {id:Nat} {Q:Exit→Act→World→Prop} {a:Act} {w:World} {l:List Oper} (S:World→Prop) (hS:S w.drew) (hm:P.follows .mixedOrders =true) (hB:Region.lexB .any l.toArray=true)
  (h:wpQuiet P l.toArray (fun w'=>∃z:HeldW S,w'=z.w) (fun a'=>∀w',(∃z:HeldW S,w'=z.w)→Q .normal a' w') l a):(Code.region id l.toArray true).wp P Q a w:=
 wp_region_quiet (C:=fun w'=>∃z:HeldW S,w'=z.w) hm hB ⟨⟨w.drew,hS⟩,rfl⟩ (by simpa using h)
theorem held_call {P:Program} {f:FuncId} {args:Array Value} {S:World→Prop} {z:HeldW S} {v:Value} (h:∀W,S W→Calls P f args W fun e w'=>e= .returned v∧S w'):
  Calls P f args z.w fun e w''=>e= .returned v∧∃z':HeldW S,w''=z'.w:=
 (h z.w z.h).mono fun _ w'' ⟨he,hs⟩=>⟨he,⟨w'',hs⟩,rfl⟩

section
variable {P:Program} (w:World)
theorem append_spot (base:Nat) (t ty e:TypeId) (i:TypeInfo) (z:Value) (size bytes:Nat) (ht:P.underlying t=some (.slice e)) (hi:P.info? e=some i) (hz:i.zero=some z)
  (hsize:i.size=size) (hby:i.bytes=bytes) (hzs:z.cells.size=size) (hsz:0 < size)
  (v:Value) (n:Nat) (xs:List Value) (hown:w.ownsRow base e size v n xs)
  (a:Addr) (m c:Nat) (news:List Value) (hl:news.length=m*size) (hnews:∀j u,news[j]?=some u→w.cell? (a.add j)=some u) (h1:∀u∈news,u.oneCell'=true)
  (hm0:0 < m) (h63:n+m≤maxLen) (hbytes:(n+m)*bytes≤140737488355328) (v':Value) (w':World)
  (hr:(Builtin.append_ #[t,t] ty #[v,.slice (some a) m c]).run P w= .ok v' w'):v'.ownBlock=v.ownBlock∨v'.ownBlock=some w.heap.size:=by
 subst hsize
 subst hby
 have hsmall:n+m≤9223372036854775807:=by simp only[maxLen]at h63;omega
 rcases hown.2 with⟨rfl,rfl⟩|⟨g,cap,cur,rfl,hbg,hg,hnc,hcm,hcs,htake⟩
 ·have h2:=run_append_nil (P:=P) w t ty e i z ht hi hz a m c news hl hnews hm0 (by omega) (by have hb:=hbytes;simp only[Nat.zero_add]at hb;omega)
  rw[hr]at h2
  injection h2 with h3
  rw[h3]
  exact .inr rfl
 ·by_cases hroom:n+m≤cap
  ·have h2:=run_append_room (P:=P) w t ty e i ht hi g n cap cur hg a m c news hl hnews h1 hroom (by rw[hl,hcs,←Nat.add_mul];exact Nat.mul_le_mul_right _ hroom)
   rw[hr]at h2
   injection h2 with h3
   rw[h3]
   exact .inl rfl
  ·have h2:=run_append_grow (P:=P) w t ty e i z ht hi hz ⟨g,0,none⟩ n cap xs hown.1 (hown.cells (g:=g) rfl) a m c news hl hnews (by omega) (by omega) (growslice_fits (by omega) hbytes)
   rw[hr]at h2
   injection h2 with h3
   rw[h3]
   exact .inr rfl
theorem wpList_append_spot {ops:Array Oper} {rest:List Oper} {o:Oper} {a:Act} {Q:Exit→Act→World→Prop} (hgd:o.guard=none) (s x:Operand) (t:TypeId)
  (ho:o.op= .call {callee:= .builtin .append,args:= #[s,x],argTypes:= #[t,t]})
  (base:Nat) (e:TypeId) (i:TypeInfo) (z:Value) (size bytes:Nat) (ht:P.underlying t=some (.slice e)) (hi:P.info? e=some i) (hz:i.zero=some z)
  (hsize:i.size=size) (hby:i.bytes=bytes) (hzs:z.cells.size=size) (hsz:0 < size)
  (v:Value) (n:Nat) (xs:List Value) (hs:a.eval s=v) (hown:w.ownsRow base e size v n xs)
  (ad:Addr) (m c:Nat) (news:List Value) (hx:a.eval x= .slice (some ad) m c) (hl:news.length=m*size) (hnews:∀j u,news[j]?=some u→w.cell? (ad.add j)=some u) (h1:∀u∈news,u.oneCell'=true)
  (hm0:0 < m) (h63:n+m≤maxLen) (hbytes:(n+m)*bytes≤140737488355328) (hbase:base≤w.heap.size)
  (h:∀v' w',w'.ownsRow base e size v' (n+m) (xs++news)→w.grownBy w' v.ownBlock→(v'.ownBlock=v.ownBlock∨v'.ownBlock=some w.heap.size)→wpList P ops Q rest (a.put o.dst v') w'):wpList P ops Q (o::rest) a w:=by
 refine wpList_plain hgd fun K hK=>?_
 obtain⟨v',w',hr,h2,h3,_⟩:=run_append_own (P:=P) w base t o.type e i z size bytes ht hi hz hsize hby hzs hsz v n xs hown ad m c news hl hnews h1 h63 hbytes hbase
 have h4:=append_spot (P:=P) w base t o.type e i z size bytes ht hi hz hsize hby hzs hsz v n xs hown ad m c news hl hnews h1 hm0 h63 hbytes v' w' hr
 unfold Oper.wp execOp
 simp only[ho,resolve,invoke,builtin,Sem.run_bind,Sem.run_pure,Result.andThen_ok,List.map_toArray,List.map_cons,List.map_nil,hs,hx,hr]
 exact hK _ _ (h v' w' h2 h3 h4)
end

end Go.Proofs.YtfomomaomggpbaaGreatDoor

namespace Go.Proofs.YtfomomaomggpbaaGreatDoor
open Go.RowKit

section
variable {α:Type} {one:World→(Nat→Prop)→α→List Value→Prop}
end
/-! expressions -/
/-! conditions -/
/-! statements -/
/-! names, arrays, procedures -/
end Go.Proofs.YtfomomaomggpbaaGreatDoor

namespace Go.Proofs.YtfomomaomggpbaaGreatDoor
open Go.RowKit

theorem infoEx:(Tryz.prog.info? 175).map (fun i=>(i.zero,i.size,i.bytes))=some (some (.agg #[.int .u8 0,.string ⟨#[]⟩,.int .i64 0,.slice none 0 0,.int .i64 0]),5,64):=by kernel_rfl
theorem infoVa:(Tryz.prog.info? 77).map (fun i=>(i.zero,i.size,i.bytes))=some (some (.agg #[.string ⟨#[]⟩,.int .i64 0]),2,24):=by kernel_rfl
theorem infoAr:(Tryz.prog.info? 61).map (fun i=>(i.zero,i.size,i.bytes))=some (some (.agg #[.string ⟨#[]⟩,.int .i64 0,.int .i64 0]),3,32):=by kernel_rfl
def zeroSt:Array Value:= #[.int .u8 0,.string ⟨#[]⟩,.slice none 0 0,.slice none 0 0,.slice none 0 0,.slice none 0 0,.int .i64 0]
theorem infoSt:(Tryz.prog.info? 51).map (fun i=>(i.zero,i.size,i.bytes))=some (some (.agg zeroSt),7,128):=by kernel_rfl
theorem infoPc:(Tryz.prog.info? 63).map (fun i=>(i.zero,i.size,i.bytes))=some (some (.agg #[.string ⟨#[]⟩,.slice none 0 0,.slice none 0 0,.int .i64 0]),4,72):=by kernel_rfl

open Go.RowKit Go.Shelf

/-! numbers -/
def IsAt (w:World) (B:Nat) (l:List Int) (b o:Nat):Prop:=b < B∧∀(i:Nat) (n:Int),l[i]?=some n→w.cell? ⟨b,o+i,none⟩=some (.int .i64 n)∧in64 n
def IsSl (w:World) (B:Nat) (l:List Int) (A:Option Addr) (c:Nat):Prop:=
 l.length≤c∧c≤9223372036854775807∧(0 < l.length→∃b o,A=some ⟨b,o,none⟩∧IsAt w B l b o)
theorem IsAt.keep {w w':World} {B:Nat} (h:Same B w w') {l:List Int} {b o:Nat} (hx:IsAt w B l b o):IsAt w' B l b o:=
 ⟨hx.1,fun i n hi=>⟨(h _ hx.1).trans (hx.2 i n hi).1,(hx.2 i n hi).2⟩⟩
theorem IsSl.keep {w w':World} {B:Nat} {l:List Int} {A:Option Addr} {c:Nat} (h:Same B w w') (hx:IsSl w B l A c):IsSl w' B l A c:=
 ⟨hx.1,hx.2.1,fun hp=>by obtain⟨b,o,e,hh⟩:=hx.2.2 hp;exact⟨b,o,e,hh.keep h⟩⟩

open Go.RowKit Go.Shelf Go.Maps

attribute [local go_sem ↓] Go.wp_at_zero Go.wp_at_succ

abbrev fault (F:TypeId) (f:Int×Int):Ending:= .panicked [{v:= .iface F (.agg #[.int .u8 f.1,.int .i64 f.2]),recovered:=false}]
theorem is64_okR (b:Bool) (n:Int) (h:b=true→is64 n):is64 (okR b n):=by
 cases b
 ·simp[okR,is64]
 ·exact h rfl
theorem is64_fit (n:Int):is64 (okR (fits64 n) n):=is64_okR _ _ fun h=>by simpa[fits64,is64]using h
theorem is64_opR (k a b:Int) (ha:is64 a):is64 (opR k a b):=by
 have z:is64 0:=by simp[is64]
 unfold opR
 split;exact is64_fit _
 split;exact is64_fit _
 split;exact is64_fit _
 split;exact is64_fit _
 split
 ·split
  ·exact z
  ·exact is64_fit _
 split
 ·split
  ·exact z
  ·have:(a.tmod b).natAbs ≤a.natAbs:=by rw[Int.natAbs_tmod];exact Nat.mod_le _ _
   by_cases h:0≤a
   ·have:=Int.tmod_nonneg b h
    unfold is64 at*;omega
   ·have h2:=Int.tmod_nonneg b (show 0≤ -a by omega)
    rw[Int.neg_tmod]at h2
    unfold is64 at*;omega
 split
 ·split
  ·exact z
  ·exact is64_fit _
 ·split
  ·exact z
  ·have h1:(1:Int)≤2 ^ b.toNat:=pow_pos2 b.toNat
   generalize (2:Int) ^ b.toNat=p at h1
   unfold is64 at*
   have h2:a / p*p+a % p=a:=Int.ediv_mul_add_emod a p
   have h3:=Int.emod_nonneg a (show p≠0 by omega)
   have h4:=Int.emod_lt_of_pos a (show 0 < p by omega)
   constructor
   ·by_cases hn:0≤a
    ·have:=Int.ediv_nonneg hn (show 0≤p by omega);omega
    ·have:=Int.le_ediv_of_mul_le (a:= -9223372036854775808) (b:=a) (c:=p) (by omega) (by
      have:(9223372036854775808:Int)*1≤9223372036854775808*p:=Int.mul_le_mul_of_nonneg_left h1 (by omega)
      omega)
     exact this
   ·by_cases hn:0≤a
    ·have:=Int.ediv_le_self p hn;omega
    ·have:a / p < 0:=Int.ediv_neg_of_neg_of_pos (by omega) (by omega)
     omega
def St64 (vs:List Int) (ls:List (List Int)):Prop:=(∀n∈vs,is64 n)∧∀l∈ls,∀n∈l,is64 n

end Go.Proofs.YtfomomaomggpbaaGreatDoor
