/-
  facetroomref13.within, mayOut whole, and the law of a graph in ref's words.
-/
import Derived.Test.YtphlnpaikpjakaaFlRD
import Derived.Test.YtphlnpaikpjakaaFlRE
import Derived.Test.YtphlnpaikpjakaaFlRF
namespace Go.Proofs.Ytphlnpaikpjakaa
open Go.RowKit Go.Shelf

set_option maxHeartbeats 800000 in
theorem rwithin_any (x:Int) (vars:Int) (Aa:Option Addr) (na ca:Nat) (nodes start last:Int) (Ae:Option Addr) (ne ce:Nat) (w:World):
  Calls Try.prog 40 #[grV vars Aa na ca nodes start last Ae ne ce,.int .i64 x] w (BoolPost (decide (0≤x)&&decide (x < nodes)) w):=by
 unfold grV
 have hbb:∀(c0:Array Value),Below w.heap.size w (w.alloc (.cells c0 25)):=fun _=>(Below.refl _ _).alloc (lrq _) _
 have HBB:=hdq hbb
 clear hbb
 cases h:decide (0≤x)
 ·go_enter Try.func40,Try.ntmps40
  go_wp2
  go_ret
  exact⟨rfl,HBB.out _⟩
 ·go_enter Try.func40,Try.ntmps40
  go_wp2
  go_ret
  exact⟨by simp,HBB.out _⟩

theorem picks_cons {l:List Ed} {x:Int} {a b:Ed} {r:List Ed} (h:outE l x=a::b::r):∃i j is,idxE l x l.length=i::j::is∧l[i]?=some a∧l[j]?=some b∧is.length=r.length:=by
 have h1:=picks_all l x
 rw[h]at h1
 match hi:idxE l x l.length,h1 with
 | [],h1=>simp at h1
 | [i],h1=>simp at h1
 |i::j::is,h1=>
  simp only[List.map_cons,List.cons.injEq]at h1
  obtain⟨h2,h3,h4⟩:=h1
  exact⟨i,j,is,rfl,h2,h3,by have:=congrArg List.length h4;simpa using this⟩
theorem rmayOut_any (l:List Ed) (x:Int) (vars:Int) (Aa:Option Addr) (na ca:Nat) (nodes start last:Int) (Ae:Option Addr) (ce:Nat) (A:Option Addr) (c B:Nat) (w:World) (hB:B≤w.heap.size)
  (hx:EdSl w B l Ae ce) (hs:IsSl w w.heap.size ((idxE l x l.length).map fun(i:Nat)=>(i:Int)) A c) (hcm:∀a∈l,a.kind=6→3≤a.cmp∧a.cmp≤8):
  Calls Try.prog 42 #[grV vars Aa na ca nodes start last Ae l.length ce,.slice A (idxE l x l.length).length c] w (BoolPost (rightL (outE l x)) w):=by
 match h:outE l x with
 | []=>
  have:idxE l x l.length= []:=by
   have:=picks_len l x
   rw[h]at this
   exact List.length_eq_zero_iff.1 this
  rw[this]
  exact rmayOut_0 vars Aa na ca nodes start last Ae l.length ce A c w
 | [a]=>
  obtain⟨i,hi,hia⟩:=picks_one h
  rw[hi]at hs ⊢
  exact rmayOut_1 a i vars Aa na ca nodes start last Ae ce l A c B w hB hx hs hia
 |a::b::r=>
  obtain⟨i,j,is,hi,hia,hjb,hl⟩:=picks_cons h
  rw[hi]at hs ⊢
  have ha:a∈l:=List.mem_of_getElem? hia
  have:=rmayOut_n a b i j (is.length+2) (by omega) vars Aa na ca nodes start last Ae ce l (i::j::(is.map fun(i:Nat)=>(i:Int))) A c B w hB hx hs (by simp) rfl rfl hia hjb (hcm a ha)
  have e:rightL (a::b::r)=((is.length+2==2)&&rightB [a,b]):=by
   cases r with
   |nil=>rw[hl];simp[rightL]
   |cons d r=>rw[hl];simp[rightL,rightB]
  rw[e]
  exact this

def rnodeOk (l:List Ed) (last x:Int):Bool:= !(x==last)&&rightL (outE l x)&& !walkR l x x (l.length+1)
def headBad (vars nodes start last:Int) (na ne:Nat):Bool:=odd1 vars nodes na ne || odd2 nodes start last false
def rmayG (g:Gr):Bool:= !headBad g.vars g.nodes g.start g.last g.arrays.length g.edges.length&& !g.arrays.any sizeBad&& !g.edges.any (edBad g.vars g.arrays.length g.nodes)&&g.edges.all fun e=>rnodeOk g.edges g.last e.from_
end Go.Proofs.Ytphlnpaikpjakaa
