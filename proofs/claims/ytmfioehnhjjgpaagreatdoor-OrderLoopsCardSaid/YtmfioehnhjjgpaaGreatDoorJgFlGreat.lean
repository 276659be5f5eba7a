/-
  A graph that may be: its nodes' bounds. No walk.
-/
import Derived.Test.YtmfioehnhjjgpaaGreatDoorJnCk3
set_option linter.unusedVariables false
set_option linter.unusedSimpArgs false
set_option maxHeartbeats 1600000
set_option maxRecDepth 100000
namespace Go.Proofs.YtmfioehnhjjgpaaGreatDoor
open Go.RowKit

theorem mayG_nodes9 {g:Gr} (h:mayG g=true):g.edges.length≤2048∧g.nodes≤4096∧(0≤g.start∧g.start < g.nodes)∧(0≤g.last∧g.last < g.nodes)∧∀e∈g.edges,(0≤e.from_∧e.from_ < g.nodes)∧0≤e.to_∧e.to_ < g.nodes:=by
 unfold mayG at h
 simp only[Bool.and_eq_true,Bool.not_eq_true',Bool.or_eq_false_iff,List.all_eq_true]at h
 obtain⟨⟨⟨h1,h2⟩,h3⟩,h4⟩:=h
 unfold odd1 at h1
 unfold odd2 at h2
 simp only[Bool.or_eq_false_iff,decide_eq_false_iff_not,Bool.not_eq_false',Bool.and_eq_true,decide_eq_true_eq]at h1 h2
 refine⟨by omega,by omega,h2.1.1.1,h2.1.1.2,fun e he=>?_⟩
 have:=List.any_eq_false.1 h3 e he
 unfold edBad at this
 simp only[Bool.not_eq_true,Bool.or_eq_false_iff,Bool.not_eq_false',Bool.and_eq_true,decide_eq_true_eq]at this
 exact this.1

open Go.RowKit Go.Shelf

def SomeInt (W:World) (e:Ending) (w':World):Prop:=∃n:Int,e= .returned (.int .i64 n)∧W=w'
def SomeBool (W:World) (e:Ending) (w':World):Prop:=∃b:Bool,e= .returned (.bool b)∧Below W.heap.size W w'
def Sized (xs:Exs):Prop:=∀(A:Option Addr) (c:Nat) (most:Int) (w:World) (B:Nat),ExSl w B xs A c→Calls Tryz.prog 44 #[.slice A xs.len c,.int .i64 most] w (SomeInt w)
def SizedAll (xs:Exs):Prop:=∀(i:Nat) (k:Int) (nm:ByteArray) (n:Int) (args:Exs) (at_:Int) (rest:Exs),Exs.drop i xs= .cons k nm n args at_ rest→Sized args

theorem size_core (xs:Exs) (hall:SizedAll xs):Sized xs:=by
 intro A c most w B hx
 have hl:xs.len≤9223372036854775807:=Nat.le_trans hx.1 hx.2.1
 have HALL:=hdq hall
 have HX:=hdq hx
 clear hall hx
 go_enter Tryz.func44,Tryz.ntmps44
 go_wp2
 go_loop [5,6] (fun n i=>∃(k:Nat) (m:Int),k≤xs.len∧i= .int .i64 k∧n= .int .i64 m) (fun _ i=>xs.len - (intOf i).toNat)
 case atStart=>exact⟨0,0,Nat.zero_le _,rfl,rfl⟩
 case round=>
  obtain⟨k,m,hk,rfl,rfl⟩:=hrel
  by_cases hlt:k < xs.len
  ·cases hm:decide (m≤most)
   ·go_wp2_with fail
    go_ret
    exact⟨_,rfl,rfl⟩
   ·obtain⟨a0,a1,a2,a3,a4,a5,hd⟩:=Exs.drop_cons hlt
    obtain⟨b,o,rfl,hat⟩:=HX.out.2.2 (by omega)
    obtain⟨hbB,c0,c1,c2,⟨A',c',c3,hsl⟩,c4,_⟩:=hat.at_ hd
    have HC:=hdq (HALL.out k a0 a1 a2 a3 a4 a5 hd A' c')
    have HS:=hdq hsl
    clear hd hsl hat
    go_wp2_with fail
    refine(HC.out _ _ B HS.out).mono ?_
    rintro _ w1 ⟨r,rfl,rfl⟩
    clear c0 c1 c2 c3 c4
    go_wp2_with fail
    go_round
    case rel=>exact⟨k+1,_,by omega,by go_num,rfl⟩
    case measure=>simp[intOf];omega
  ·go_wp2_with fail
   go_ret
   exact⟨_,rfl,rfl⟩
theorem size_all:∀xs:Exs,SizedAll xs
 | .nil =>fun i _ _ _ _ _ _ hd=>by cases i<;>simp[Exs.drop]at hd
 | .cons k nm n args at_ rest=>fun i k' nm' n' args' at' rest' hd=>by
  cases i with
  |zero=>
   simp only[Exs.drop]at hd
   injection hd with e1 e2 e3 e4 e5 e6
   subst e4
   exact size_core args (size_all args)
  |succ i=>
   simp only[Exs.drop]at hd
   exact size_all rest i k' nm' n' args' at' rest' hd
theorem size_any (xs:Exs):Sized xs:=size_core xs (size_all xs)

theorem great_any (vars:Int) (Aa:Option Addr) (na ca:Nat) (nodes start last:Int) (l:List Ed) (Ae:Option Addr) (ce B:Nat) (w:World) (hB:B≤w.heap.size) (hx:EdSl w B l Ae ce) (hna:na≤9223372036854775807):
  Calls Tryz.prog 14 #[grV vars Aa na ca nodes start last Ae l.length ce] w (SomeBool w):=by
 have hl:l.length≤9223372036854775807:=Nat.le_trans hx.1 hx.2.1
 have HX:=hdq hx
 clear hx
 unfold grV
 go_enter Tryz.func14,Tryz.ntmps14
 go_wp2
 go_loop [3,4] (fun n i=>∃(k:Nat) (m:Int),k≤l.length∧i= .int .i64 k∧n= .int .i64 m) (fun _ i=>l.length - (intOf i).toNat)
 case atStart=>exact⟨0,0,Nat.zero_le _,rfl,rfl⟩
 case round=>
  obtain⟨k,m,hk,rfl,rfl⟩:=hrel
  have hbb:Below w.heap.size w (w.alloc (.cells #[.int .i64 vars,.slice Aa na ca,.int .i64 nodes,.int .i64 start,.int .i64 last,.slice Ae l.length ce] 33)):=(Below.refl _ _).alloc (Nat.le_refl _) _
  have HBB:=hdq hbb
  clear hbb
  by_cases hlt:k < l.length
  ·cases hm:decide (m≤5000)
   ·go_wp2_with fail
    all_goals
     go_ret
     exact⟨_,rfl,HBB.out⟩
   ·obtain⟨e,he⟩:∃e,l[k]?=some e:=⟨_,List.getElem?_eq_getElem hlt⟩
    obtain⟨b,o,rfl,hat⟩:=HX.out.2.2 (by omega)
    obtain⟨hbB,c0,c1,c2,c3,c4,⟨A',c',c5,hsl⟩,c6,hok⟩:=(hat.keep (Same.of HBB.out hB)).at_ he
    have HS:=hdq hsl
    clear he hsl hok hat c0 c1 c2 c3 c4 c6
    go_wp2_with fail
    refine(size_any e.args A' c' _ _ B HS.out).mono ?_
    rintro _ w1 ⟨r,rfl,rfl⟩
    clear c5
    go_wp2_with fail
    go_round
    case rel=>exact⟨k+1,_,by omega,by go_num,rfl⟩
    case measure=>simp[intOf];omega
  ·go_wp2_with fail
   all_goals
    go_ret
    exact⟨_,rfl,HBB.out⟩
end Go.Proofs.YtmfioehnhjjgpaaGreatDoor
