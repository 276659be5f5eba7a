/-
  Keys of maps that are texts.
-/
import Derived.Test.YtfomomaomggpbaaGreatDoorRows
import Derived.Maps.OwnSet
import Derived.Maps.OwnOps
import Derived.Maps.RangeWalk
import Derived.Test.YtfomomaomggpbaaGreatDoorJnData
set_option linter.unusedVariables false
set_option linter.unusedSimpArgs false
namespace Go.Proofs.YtfomomaomggpbaaGreatDoor
open Go.RowKit Go.Maps

def heldB (v:Value):Option (DataW Value×List MemPlace):=some (.held v, [])
theorem strKey:Keyed Tryz.prog 9:=string_keyed Tryz.underlying9
theorem keyS {t:List UInt8} (h:t.length≤maxLen):keyOf Tryz.prog 9 (.string ⟨t.toArray⟩)=some (.string t):=by
 have:=WideMaps.keyOf_string_mk (P:=Tryz.prog) Tryz.underlying9 (s:=⟨t.toArray⟩) (by simpa[ByteArray.size]using h)
 simpa using this

def MpV (w:World) (b n:Nat) (f:List UInt8→Option Value):Prop:=
 ∃D,w.ownsMap Tryz.prog 9 heldB b n D∧∀t:List UInt8,Maps.has D (.string t)=(f t).isSome ∧(∀v,f t=some v→∀z,D.atKey (.string t) z= .held v)∧(f t=none→∀z,D.atKey (.string t) z=z)
theorem MpV.made (w:World):MpV (w.alloc (.map #[] 0)) w.heap.size 0 fun _=>none:=⟨_,World.ownsMap_made _ _ _ _,fun t=>⟨rfl,fun v h=>by simp at h,fun _ z=>rfl⟩⟩
theorem keyS' {s:ByteArray} (h:s.size≤9223372036854775807):keyOf Tryz.prog 9 (.string s)=some (.string s.data.toList):=
 WideMaps.keyOf_string_mk (P:=Tryz.prog) Tryz.underlying9 (s:=s) (by unfold maxLen;omega)
theorem MpV.lt {w:World} {b n:Nat} {f:List UInt8→Option Value} (h:MpV w b n f):b < w.heap.size:=by
 obtain⟨D,hown,_⟩:=h
 exact hown.lt
theorem MpV.kept {w w':World} {b n:Nat} {f:List UInt8→Option Value} (h:MpV w b n f) {row:Option Nat} (hg:w.grownBy w' row) (hne:some b≠row):MpV w' b n f:=by
 obtain⟨D,hown,hD⟩:=h
 exact⟨D,hown.kept hg hne,hD⟩
theorem MpV.fr {w w':World} {b n:Nat} {f:List UInt8→Option Value} (h:MpV w b n f) {T:Nat→Prop} (hf:Fr T w w') (ht:¬T b):MpV w' b n f:=by
 obtain⟨D,hown,hD⟩:=h
 have hl:=hown.lt
 obtain⟨es,clock,hb,F,hs,e⟩:=hown
 exact⟨D,⟨es,clock,(hf.block b hl ht).trans hb,F,hs,e⟩,hD⟩
theorem MpV.put {w:World} {b n:Nat} {f:List UInt8→Option Value} (h:MpV w b n f) {mt e:TypeId} (hmt:Tryz.prog.underlying mt=some (.map 9 e)) {s:ByteArray} (hs:s.size≤9223372036854775807) (v:Value) (hn:n < maxLen):
  ∃w',(Instr.mapUpdate mt (.map (some b)) (.string s) v).run Tryz.prog w= .ok () w'∧MpV w' b (n+1) (fun y=>if y=s.data.toList then some v else f y)∧w.grownBy w' (some b):=by
 obtain⟨D,hown,hD⟩:=h
 obtain⟨w',hrun,hown',hg⟩:=hown.update strKey hmt hn (keyS' hs) (val:=v) (d:= .held v) (ps:= []) rfl
 refine⟨w',hrun,⟨_,hown',fun x=>?_⟩,hg⟩
 have kx:WideAt.IsKeyLit (.string s.data.toList):=strKey.key (keyS' hs)
 by_cases e:x=s.data.toList
 ·subst e
  simp only[if_true]
  refine⟨by rw[has_put_same hown.isMap kx];rfl,fun u hu z=>?_,fun hu=>by simp at hu⟩
  rw[atKey_put_same hown.isMap kx]
  simp at hu
  rw[hu]
 ·have e2:(Lit.string x)≠ .string s.data.toList:=fun h=>e (by simpa using h)
  simp only[if_neg e]
  refine⟨by rw[has_put_other e2,(hD x).1],fun u hu z=>?_,fun hu z=>?_⟩
  ·rw[atKey_put_other e2]
   exact(hD x).2.1 u hu z
  ·rw[atKey_put_other e2]
   exact(hD x).2.2 hu z
theorem MpV.get {w:World} {b n:Nat} {f:List UInt8→Option Value} (h:MpV w b n f) {mt e:TypeId} (hmt:Tryz.prog.underlying mt=some (.map 9 e)) {s:ByteArray} (hs:s.size≤9223372036854775807) {z:Value} (hz:(zeroValue e).run Tryz.prog w= .ok z w):
  (Instr.lookup mt (.map (some b)) (.string s) false).run Tryz.prog w= .ok ((f s.data.toList).getD z) w:=by
 obtain⟨D,hown,hD⟩:=h
 obtain⟨v,ps,hrun,hv⟩:=hown.lookup strKey hmt hz (zd:= .held _) (zp:= []) rfl (keyS' hs)
 rw[hrun]
 cases hl:f s.data.toList with
 |none=>
  rw[(hD s.data.toList).2.2 hl]at hv
  simp only[heldB,Option.some.injEq,Prod.mk.injEq,DataW.held.injEq]at hv
  rw[hv.1]
  rfl
 |some u=>
  rw[(hD s.data.toList).2.1 u hl]at hv
  simp only[heldB,Option.some.injEq,Prod.mk.injEq,DataW.held.injEq]at hv
  rw[hv.1]
  rfl
end Go.Proofs.YtfomomaomggpbaaGreatDoor
