/-
  facetroomref13.size and Great, exactly enough: a graph that is not great is of at most 5000 parts (names of at most 2^47 bytes).
-/
import Derived.Test.YtphlnpaikpjakaaJnCk3
set_option linter.unusedVariables false
set_option linter.unusedSimpArgs false
set_option maxHeartbeats 1600000
set_option maxRecDepth 100000
namespace Go.Proofs.Ytphlnpaikpjakaa
open Go.RowKit Go.Shelf

def cntX:Exs→Nat
 | .nil =>0
 | .cons _ _ _ args _ rest=>1+cntX args+cntX rest
def nmX:Exs→Prop
 | .nil =>True
 | .cons _ nm _ args _ rest=>nm.size≤140737488355328∧nmX args∧nmX rest
theorem cntX_drop {xs:Exs} {i:Nat} {k:Int} {nm:ByteArray} {n:Int} {args:Exs} {at_:Int} {rest:Exs} (h:Exs.drop i xs= .cons k nm n args at_ rest):cntX (Exs.drop i xs)=1+cntX args+cntX (Exs.drop (i+1) xs):=by
 rw[Exs.drop_succ i xs h,h];rfl
def SizN (xs:Exs) (most:Int) (W:World) (e:Ending) (w':World):Prop:=∃r:Int,e= .returned (.int .i64 r)∧W=w'∧0≤r∧(r≤most+140737488355329∨r=0)∧(r≤most→(cntX xs:Int)≤r)
def SizedN (xs:Exs):Prop:=∀(A:Option Addr) (c:Nat) (most:Int) (w:World) (B:Nat),ExSl w B xs A c→most≤5000→ -1000000000000000≤most→Calls Try.prog 12 #[.slice A xs.len c,.int .i64 most] w (SizN xs most w)
def SizedNAll (xs:Exs):Prop:=∀(i:Nat) (k:Int) (nm:ByteArray) (n:Int) (args:Exs) (at_:Int) (rest:Exs),Exs.drop i xs= .cons k nm n args at_ rest→nm.size≤140737488355328∧SizedN args

theorem sizeN_core (xs:Exs) (hall:SizedNAll xs):SizedN xs:=by
 intro A c most w B hx h50 hlo
 have hl:xs.len≤9223372036854775807:=leq9 hx.1 hx.2.1
 have HALL:=hdq hall
 have HX:=hdq hx
 clear hall hx
 go_enter Try.func12,Try.ntmps12
 go_wp2
 go_loop [5,6] (fun n i=>∃(k:Nat) (m:Int),k≤xs.len∧i= .int .i64 k∧n= .int .i64 m∧0≤m∧(m≤most+140737488355329∨m=0)∧Hid (m≤most→(cntX xs:Int)≤m+cntX (Exs.drop k xs))) (fun _ i=>xs.len - (intOf i).toNat)
 case atStart=>exact⟨0,0,Nat.zero_le _,rfl,rfl,Int.le_refl _,.inr rfl,hdq fun _=>by simp[Exs.drop]⟩
 case round=>
  obtain⟨k,m,hk,rfl,rfl,hm0,hm1,hm2⟩:=hrel
  by_cases hlt:k < xs.len
  ·by_cases hm:m≤most
   ·obtain⟨a0,a1,a2,a3,a4,a5,hd⟩:=Exs.drop_cons hlt
    obtain⟨b,o,rfl,hat⟩:=HX.out.2.2 (by omega)
    obtain⟨hbB,c0,c1,c2,⟨A',c',c3,hsl⟩,c4,_⟩:=hat.at_ hd
    obtain⟨hns,hsz⟩:=HALL.out k a0 a1 a2 a3 a4 a5 hd
    obtain⟨z,hz⟩:=nmq a1.size
    rw[←hz]at hns
    have HZ:=hdq hz
    have HC:=hdq (hsz A' c' (most - (m+1+z)))
    have HS:=hdq hsl
    have HD:=hdq (cntX_drop hd)
    have hq1:m+1≤5001:=by omega
    have hq2:m+1+(z:Int)≤140737488360329:=by omega
    have hq3: -1000000000000000≤most - (m+1+z):=by omega
    have hq4:most - (m+1+z)≤5000:=by omega
    have hw1:wrap64 (m+1+(z:Int))=m+1+z:=by unfold wrap64;omega
    have hw2:wrap64 (most - (m+1+(z:Int)))=most - (m+1+z):=by unfold wrap64;omega
    clear hd hsl hat hsz hz
    go_wp2_with fail
    rw[←HZ.out,hw1,hw2]
    refine(HC.out _ B HS.out hq4 hq3).mono ?_
    rintro _ w1 ⟨r,rfl,rfl,hr0,hr1,hr2⟩
    have hw3:wrap64 (m+1+(z:Int)+r)=m+1+z+r:=by unfold wrap64;omega
    have HE:=hdq (show m+1+z+r≤most→(cntX xs:Int)≤m+1+z+r+cntX (Exs.drop (k+1) xs)from fun h=>by
     have h1:=hm2.out (by omega)
     have h2:=hr2 (by omega)
     have h3:=HD.out
     omega)
    have hb1:m+1+(z:Int)+r≤most+140737488355329:=by omega
    have hb0:0≤m+1+(z:Int)+r:=by omega
    clear c0 c1 c2 c3 c4 hm2 hr2 hr1
    go_wp2_with fail
    go_round
    case rel=>exact⟨k+1,m+1+z+r,by omega,by go_num,rfl,hb0,.inl hb1,HE⟩
    case measure=>simp[intOf];omega
   ·have HF:=hdq hm2
    go_wp2_with fail
    go_ret
    exact⟨_,rfl,rfl,hm0,hm1,fun h=>by omega⟩
  ·have HF:=hdq (show m≤most→(cntX xs:Int)≤m from fun h=>by have h1:=hm2.out h;rw[Exs.drop_nil (by omega)]at h1;simpa[cntX]using h1)
   clear hm2
   go_wp2_with fail
   go_ret
   exact⟨_,rfl,rfl,hm0,hm1,HF.out⟩
theorem sizeN_all:∀xs:Exs,nmX xs→SizedNAll xs
 | .nil,_=>fun i _ _ _ _ _ _ hd=>by cases i<;>simp[Exs.drop]at hd
 | .cons k nm n args at_ rest,hn=>fun i k' nm' n' args' at' rest' hd=>by
  cases i with
  |zero=>
   simp only[Exs.drop]at hd
   injection hd with e1 e2 e3 e4 e5 e6
   subst e4
   subst e2
   exact⟨hn.1,sizeN_core args (sizeN_all args hn.2.1)⟩
  |succ i=>
   simp only[Exs.drop]at hd
   exact sizeN_all rest hn.2.2 i k' nm' n' args' at' rest' hd
theorem sizeN_any (xs:Exs) (h:nmX xs):SizedN xs:=sizeN_core xs (sizeN_all xs h)
def GreatP (l:List Ed) (W:World) (e:Ending) (w':World):Prop:=∃b:Bool,e= .returned (.bool b)∧Below W.heap.size W w'∧(b=false→∀x∈l,cntX x.args≤5000)
theorem greatN_any (vars:Int) (Aa:Option Addr) (na ca:Nat) (nodes start last:Int) (l:List Ed) (Ae:Option Addr) (ce B:Nat) (w:World) (hB:B≤w.heap.size) (hx:EdSl w B l Ae ce) (hna:na≤9223372036854775807) (hnm:∀e∈l,nmX e.args):
  Calls Try.prog 4 #[grV vars Aa na ca nodes start last Ae l.length ce] w (GreatP l w):=by
 have hl:l.length≤9223372036854775807:=leq9 hx.1 hx.2.1
 have HX:=hdq hx
 have HNM:=hdq hnm
 clear hx hnm
 unfold grV
 go_enter Try.func4,Try.ntmps4
 go_wp2
 go_loop [3,4] (fun n i=>∃(k:Nat) (m:Int),k≤l.length∧i= .int .i64 k∧n= .int .i64 m∧0≤m∧m≤140737488365330∧Hid (m≤5000→∀x∈l.take k,cntX x.args≤5000)) (fun _ i=>l.length - (intOf i).toNat)
 case atStart=>exact⟨0,0,Nat.zero_le _,rfl,rfl,Int.le_refl _,by omega,hdq fun _ x hx=>by simp at hx⟩
 case round=>
  obtain⟨k,m,hk,rfl,rfl,hm0,hm1,hm2⟩:=hrel
  have hbb:Below w.heap.size w (w.alloc (.cells #[.int .i64 vars,.slice Aa na ca,.int .i64 nodes,.int .i64 start,.int .i64 last,.slice Ae l.length ce] 25)):=(Below.refl _ _).alloc (lrq _) _
  have HBB:=hdq hbb
  clear hbb
  by_cases hm:m≤5000
  ·by_cases hlt:k < l.length
   ·obtain⟨e,he⟩:∃e,l[k]?=some e:=⟨_,List.getElem?_eq_getElem hlt⟩
    obtain⟨b,o,rfl,hat⟩:=HX.out.2.2 (by omega)
    obtain⟨hbB,c0,c1,c2,c3,c4,⟨A',c',c5,hsl⟩,c6,hok⟩:=(hat.keep (Same.of HBB.out hB)).at_ he
    have HS:=hdq hsl
    have HSZ:=hdq (sizeN_any e.args (HNM.out e (List.mem_of_getElem? he)) A' c' (5000 - m))
    have HT:=hdq (show l.take (k+1)=l.take k++ [e]from by rw[List.take_add_one,he];rfl)
    clear he hsl hok hat c0 c1 c2 c3 c4 c6
    go_wp2_with fail
    refine(HSZ.out _ B HS.out (by omega) (by omega)).mono ?_
    rintro _ w1 ⟨r,rfl,rfl,hr0,hr1,hr2⟩
    have hb1:m+1+r≤140737488365330:=by omega
    have hb0:0≤m+1+r:=by omega
    have hw3:wrap64 (m+1+r)=m+1+r:=by unfold wrap64;omega
    have HE:=hdq (show m+1+r≤5000→∀x∈l.take (k+1),cntX x.args≤5000 from fun h x hx=>by
     rw[HT.out]at hx
     rcases List.mem_append.1 hx with hx|hx
     ·exact hm2.out (by omega) x hx
     ·obtain rfl:=List.mem_singleton.1 hx
      have:=hr2 (by omega)
      omega)
    clear c5 hm2 hr1 hr2
    go_wp2_with fail
    go_round
    case rel=>exact⟨k+1,m+1+r,by omega,by go_num,rfl,hb0,hb1,HE⟩
    case measure=>simp[intOf];omega
   ·have HF:=hdq (show ∀x∈l,cntX x.args≤5000 from fun x hx=>hm2.out hm x (by rw[List.take_of_length_le (by omega)];exact hx))
    clear hm2
    go_wp2_with fail
    all_goals
     go_ret
     exact⟨_,rfl,HBB.out,fun _=>HF.out⟩
  ·clear hm2
   go_wp2_with fail
   all_goals
    go_ret
    exact⟨_,rfl,HBB.out,fun h=>by simp at h⟩
end Go.Proofs.Ytphlnpaikpjakaa
