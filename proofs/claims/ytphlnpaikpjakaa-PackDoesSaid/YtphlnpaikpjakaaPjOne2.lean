/-
  facetroomref26.one: an edge's packs become one.
-/
import Derived.Test.YtphlnpaikpjakaaPjOne
set_option linter.unusedVariables false
set_option linter.unusedSimpArgs false
namespace Go.Proofs.Ytphlnpaikpjakaa
open Go.RowKit Go.Shelf

def MkB (w:World) (g n:Nat) (m:Nat→Bool):Prop:=Bk w g 4 ((List.range n).map fun j=>Value.bool (m j)).toArray
theorem MkB.cell {w:World} {g n:Nat} {m:Nat→Bool} (h:MkB w g n m) {j:Nat} (hj:j < n):w.cell? ⟨g,j,none⟩=some (.bool (m j)):=by
 rw[Bk.cell h j,List.getElem?_toArray,List.getElem?_map,List.getElem?_range hj]
 rfl
theorem MkB.set_ {w:World} {g n:Nat} {m:Nat→Bool} (h:MkB w g n m) {j:Nat} (hj:j < n):MkB (w.setCell ⟨g,j,none⟩ (.bool true)) g n (fun i=>m i || i==j):=by
 have h1:=Bk.set_ h j (.bool true)
 unfold MkB
 rw[List.setIfInBounds_toArray]at h1
 have e:((List.range n).map fun i=>Value.bool (m i)).set j (.bool true)=(List.range n).map fun i=>Value.bool (m i || i==j):=by
  refine List.ext_getElem? fun i=>?_
  rw[List.getElem?_set]
  by_cases hi:i < n
  ·rw[List.getElem?_map,List.getElem?_map,List.getElem?_range hi]
   by_cases e:j=i
   ·subst e;simp[hi]
   ·rw[if_neg e]
    have:(i==j)=false:=by simpa using fun h=>e h.symm
    simp[this]
  ·rw[List.getElem?_map,List.getElem?_map,List.getElem?_eq_none (by simp;omega)]
   split<;>simp;omega
 rw[←e]
 exact h1
theorem MkB.new (w:World) (n:Nat):MkB (w.alloc (.cells (List.replicate n (Value.bool false)).toArray 4)) w.heap.size n (fun _=>false):=by
 have e:List.replicate n (Value.bool false)=(List.range n).map fun _=>Value.bool false:=by
  refine List.ext_getElem? fun i=>?_
  rw[List.getElem?_map]
  by_cases hi:i < n
  ·rw[List.getElem?_range hi,List.getElem?_replicate,if_pos hi];rfl
  ·rw[List.getElem?_eq_none (by simp;omega),List.getElem?_eq_none (by simp;omega)];rfl
 rw[e]
 exact Bk.new _ _ _
theorem infoBool:(Try.prog.info? 4).map (fun i=>(i.zero,i.size,i.bytes))=some (some (.bool false),1,1):=by kernel_rfl
theorem run_mkB (n:Nat) (hn:n≤100000) (w:World):(Instr.makeSlice 82 (.int .i64 n) (.int .i64 n)).run Try.prog w= .ok (.slice (some ⟨w.heap.size,0,none⟩) n n) (w.alloc (.cells (List.replicate n (Value.bool false)).toArray 4)):=by
 obtain⟨i0,hi,hz0,hz1,hz2⟩:=info_parts infoBool
 have h:=run_makeSlice (P:=Try.prog) w 82 4 i0 (.bool false) Try.underlying82 hi hz0 .i64 .i64 (n:Int) n (by omega) (Int.le_refl _) (by rw[hz1];simp;omega) (by rw[hz2];omega) (by omega)
 simp only[Int.toNat_natCast,hz1,Nat.mul_one]at h
 have e:madeCells (Value.bool false).cells n=(List.replicate n (Value.bool false)).toArray :=by
  apply Array.ext
  ·simp[size_madeCells]
  ·intro j h1 h2
   have e1:j % 1=0:=Nat.mod_one j
   simp[madeCells,Value.cells,e1]
 rw[e]at h
 exact h
def inM (f sc:List Int) (k j:Nat):Bool:=((sc.take k).map fun x=>f.getD x.toNat 0).contains (j:Int)
theorem inM_succ {f sc:List Int} {k nx ny:Nat} (hx:sc[k]?=some (nx:Int)) (hy:f[nx]?=some (ny:Int)):inM f sc (k+1)=fun i=>inM f sc k i || i==ny:=by
 funext i
 unfold inM
 rw[List.take_add_one,hx,List.map_append,List.contains_eq_any_beq,List.contains_eq_any_beq,List.any_append]
 have e:f.getD ((nx:Int)).toNat 0=(ny:Int):=by rw[show((nx:Int)).toNat =nx from rfl,List.getD_eq_getElem?_getD,hy];rfl
 have e2:((i:Int)==(ny:Int))=(i==ny):=by
  by_cases h:i=ny
  ·subst h;simp
  ·have h1:(i==ny)=false:=by simpa using h
   have h2:((i:Int)==(ny:Int))=false:=by simp only[beq_eq_false_iff_ne,ne_eq];omega
   rw[h1,h2]
 simp[e2,hy]
def unK (f sc:List Int) (k:Nat):List Nat:=(List.range k).filter fun i=>decide (f.getD i 0∈sc.map fun n=>f.getD n.toNat 0)
theorem unK_all (f sc:List Int):unK f sc f.length=unL f sc:=rfl
theorem mem_inM {f sc:List Int} {i ni:Nat} (hi:f[i]?=some (ni:Int)):(f.getD i 0∈sc.map fun n=>f.getD n.toNat 0)↔inM f sc sc.length ni=true:=by
 unfold inM
 rw[List.take_length,List.getD_eq_getElem?_getD,hi,List.contains_iff_mem]
 rfl
theorem unK_succ {f sc:List Int} {k nk:Nat} (hk:f[k]?=some (nk:Int)):unK f sc (k+1)=unK f sc k++(if inM f sc sc.length nk then [k]else []):=by
 unfold unK
 rw[List.range_succ,List.filter_append]
 congr 1
 by_cases h:inM f sc sc.length nk=true
 ·have d:decide (f.getD k 0∈sc.map fun n=>f.getD n.toNat 0)=true:=decide_eq_true ((mem_inM (sc:=sc) hk).2 h)
  rw[List.filter_cons,List.filter_nil,d,h]
 ·have d:decide (f.getD k 0∈sc.map fun n=>f.getD n.toNat 0)=false:=decide_eq_false fun h'=>h ((mem_inM (sc:=sc) hk).1 h')
  have h2:inM f sc sc.length nk=false:=by simpa using h
  rw[List.filter_cons,List.filter_nil,d,h2]
def lstK (f sc:List Int) (k:Nat):Int:=((unK f sc k).map fun(i:Nat)=>(i:Int)).headD (-1)
theorem lst_yes {f sc:List Int} {k nk:Nat} (hk:f[k]?=some (nk:Int)) (h:inM f sc sc.length nk=true):((unK f sc (k+1)).length :Int)=(unK f sc k).length +1∧(lstK f sc k= -1∧lstK f sc (k+1)=k∨0≤lstK f sc k∧lstK f sc (k+1)=lstK f sc k):=by
 have e:=unK_succ (sc:=sc) hk
 rw[h]at e
 unfold lstK
 rw[e]
 refine⟨by simp,?_⟩
 cases hu:unK f sc k with
 |nil=>exact .inl ⟨rfl,rfl⟩
 |cons a r=>exact .inr ⟨by simp,by simp⟩
theorem lst_no {f sc:List Int} {k nk:Nat} (hk:f[k]?=some (nk:Int)) (h:inM f sc sc.length nk=false):unK f sc (k+1)=unK f sc k∧lstK f sc (k+1)=lstK f sc k:=by
 have e:=unK_succ (sc:=sc) hk
 rw[h]at e
 have e2:unK f sc (k+1)=unK f sc k:=by rw[e];simp
 exact⟨e2,by unfold lstK;rw[e2]⟩
def putK (f sc:List Int) (k:Nat):List Int:=(List.range f.length).map fun i=>if i < k∧f.getD i 0∈sc.map (fun n=>f.getD n.toNat 0)then lstK f sc f.length else f.getD i 0
theorem putK_zero (f sc:List Int):putK f sc 0=f:=by
 unfold putK
 refine List.ext_getElem? fun i=>?_
 rw[List.getElem?_map]
 by_cases hi:i < f.length
 ·rw[List.getElem?_range hi,List.getElem?_eq_getElem hi]
  simp[hi]
 ·rw[List.getElem?_eq_none (by simp;omega),List.getElem?_eq_none (by omega)];rfl
theorem putK_len (f sc:List Int) (k:Nat):(putK f sc k).length =f.length:=by simp[putK]
theorem putK_yes {f sc:List Int} {k nk:Nat} (hk:f[k]?=some (nk:Int)) (h:inM f sc sc.length nk=true):putK f sc (k+1)=(putK f sc k).set k (lstK f sc f.length):=by
 have hkl:=(List.getElem?_eq_some_iff.1 hk).1
 have hm:=(mem_inM (sc:=sc) hk).2 h
 unfold putK
 refine List.ext_getElem? fun i=>?_
 rw[List.getElem?_set,List.getElem?_map,List.getElem?_map,List.length_map,List.length_range]
 by_cases hi:i < f.length
 ·rw[List.getElem?_range hi,Option.map_some,Option.map_some]
  by_cases e:k=i
  ·subst e
   rw[if_pos rfl,if_pos hkl,if_pos ⟨by omega,hm⟩]
  ·rw[if_neg e]
   congr 1
   by_cases h1:i < k
   ·have h2:i < k+1:=by omega
    simp only[h1,h2,true_and]
   ·have h2:¬i < k+1:=by omega
    simp only[h1,h2,false_and]
 ·rw[List.getElem?_eq_none (by simp;omega)]
  have:¬k=i:=by omega
  rw[if_neg this]
  rfl
theorem putK_no {f sc:List Int} {k nk:Nat} (hk:f[k]?=some (nk:Int)) (h:inM f sc sc.length nk=false):putK f sc (k+1)=putK f sc k:=by
 have hm:¬(f.getD k 0∈sc.map fun n=>f.getD n.toNat 0):=fun hc=>by rw[(mem_inM (sc:=sc) hk).1 hc]at h;cases h
 unfold putK
 refine List.map_congr_left fun i hi=>?_
 by_cases e:i=k
 ·subst e
  rw[if_neg (fun hc=>hm hc.2),if_neg (fun hc=>hm hc.2)]
 ·by_cases h1:i < k
  ·have h2:i < k+1:=by omega
   simp only[h1,h2,true_and]
  ·have h2:¬i < k+1:=by omega
   simp only[h1,h2,false_and]
theorem putK_all {f sc:List Int} {most:Int} (h:¬most < ((unL f sc).length :Int)):putK f sc f.length=oneL f sc most:=by
 unfold putK oneL
 rw[if_neg h]
 refine List.map_congr_left fun i hi=>?_
 have hil:=List.mem_range.1 hi
 by_cases hm:f.getD i 0∈sc.map fun n=>f.getD n.toNat 0
 ·rw[if_pos ⟨hil,hm⟩,if_pos hm]
  unfold lstK
  rw[unK_all]
  have:i∈unL f sc:=List.mem_filter.2 ⟨List.mem_range.2 hil,by simpa using hm⟩
  cases hu:unL f sc with
  |nil=>rw[hu]at this;simp at this
  |cons a r=>rfl
 ·rw[if_neg (fun hc=>hm hc.2),if_neg hm]
end Go.Proofs.Ytphlnpaikpjakaa
