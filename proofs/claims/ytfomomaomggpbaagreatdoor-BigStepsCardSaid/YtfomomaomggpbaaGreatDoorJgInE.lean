/- Keys of maps that are texts. -/
import Derived.Test.YtfomomaomggpbaaGreatDoorRows
import Derived.Maps.OwnSet
import Derived.Maps.OwnOps
import Derived.Maps.RangeWalk
import Derived.Test.YtfomomaomggpbaaGreatDoorJnData
set_option linter.all false
namespace Go.Proofs.YtfomomaomggpbaaGreatDoor
open Go.RowKit Go.Maps
def zdw (v:Value):Option (DataW Value×List MemPlace):=some (.held v, [])
theorem strKey:Keyed Tryz.prog 9:=string_keyed Tryz.underlying9
theorem keyS {t:List UInt8}(h:t.length<=maxLen):keyOf Tryz.prog 9 (.string ⟨t.toArray⟩)=some (.string t):=by
 have:=WideMaps.keyOf_string_mk (P:=Tryz.prog) Tryz.underlying9 (s:=⟨t.toArray⟩) (by simpa[ByteArray.size]using h);simpa using this
def MpV (w:World)(b n:Nat)(f:List UInt8->Option Value):Prop:=
 ∃D,w.ownsMap Tryz.prog 9 zdw b n D/\∀t:List UInt8,Maps.has D (.string t)=(f t).isSome /\(∀v,f t=some v->∀z,D.atKey (.string t) z= .held v)/\(f t=none->∀z,D.atKey (.string t) z=z)
theorem MpV.made (w:World):MpV (w.alloc (.map #[] 0)) w.heap.size 0 λ_=>none:=⟨_,World.ownsMap_made _ _ _ _,λt=>⟨rfl,λv h=>by simp at h,λ_ z=>rfl⟩⟩
theorem znG {s:ByteArray}(h:s.size<=9223372036854775807):keyOf Tryz.prog 9 (.string s)=some (.string s.data.toList):=
 WideMaps.keyOf_string_mk (P:=Tryz.prog) Tryz.underlying9 (s:=s) (by unfold maxLen;omega)
theorem MpV.lt {w:World}{b n:Nat}{f:List UInt8->Option Value}(h:MpV w b n f):b < w.heap.size:=by
 obtain⟨D,Hb,_⟩:=h;exact Hb.lt
theorem MpV.kept {w w':World}{b n:Nat}{f:List UInt8->Option Value}(h:MpV w b n f){row:Option Nat}(hg:w.grownBy w' row)(Gc:some b≠row):MpV w' b n f:=by
 obtain⟨D,Hb,hD⟩:=h;exact⟨D,Hb.kept hg Gc,hD⟩
theorem MpV.fr {w w':World}{b n:Nat}{f:List UInt8->Option Value}(h:MpV w b n f){T:Nat->Prop}(hf:Fr T w w')(ht:¬T b):MpV w' b n f:=by
 obtain⟨D,Hb,hD⟩:=h;have hl:=Hb.lt;obtain⟨es,clock,hb,F,hs,e⟩:=Hb;exact⟨D,⟨es,clock,(hf.block b hl ht).trans hb,F,hs,e⟩,hD⟩
theorem MpV.put {w:World}{b n:Nat}{f:List UInt8->Option Value}(h:MpV w b n f){mt e:TypeId}(Ye:Tryz.prog.underlying mt=some (.map 9 e)){s:ByteArray}(hs:s.size<=9223372036854775807)(v:Value)(hn:n < maxLen):
  ∃w',(Instr.mapUpdate mt (.map (some b)) (.string s) v).run Tryz.prog w= .ok () w'/\MpV w' b (n+1) (λy=>if y=s.data.toList then some v else f y)/\w.grownBy w' (some b):=by
 obtain⟨D,Hb,hD⟩:=h;obtain⟨w',GH,KY,hg⟩:=Hb.update strKey Ye hn (znG hs) (val:=v) (d:= .held v) (ps:= []) rfl;refine⟨w',GH,⟨_,KY,λx=>?_⟩,hg⟩;have kx:WideAt.IsKeyLit (.string s.data.toList):=strKey.key (znG hs);by_cases e:x=s.data.toList
 ·subst e;simp only[if_true];refine⟨by rw[has_put_same Hb.isMap kx];rfl,λu hu z=>?_,λhu=>by simp at hu⟩;rw[atKey_put_same Hb.isMap kx];simp at hu;rw[hu]
 ·have e2:(Lit.string x)≠ .string s.data.toList:=λh=>e (by simpa using h);simp only[if_neg e];refine⟨by rw[has_put_other e2,(hD x).1],λu hu z=>?_,λhu z=>?_⟩
  ·rw[atKey_put_other e2];exact(hD x).2.1 u hu z
  ·rw[atKey_put_other e2];exact(hD x).2.2 hu z
theorem MpV.get {w:World}{b n:Nat}{f:List UInt8->Option Value}(h:MpV w b n f){mt e:TypeId}(Ye:Tryz.prog.underlying mt=some (.map 9 e)){s:ByteArray}(hs:s.size<=9223372036854775807){z:Value}(hz:(zeroValue e).run Tryz.prog w= .ok z w):
  (Instr.lookup mt (.map (some b)) (.string s) false).run Tryz.prog w= .ok ((f s.data.toList).getD z) w:=by
 obtain⟨D,Hb,hD⟩:=h;obtain⟨v,ps,GH,hv⟩:=Hb.lookup strKey Ye hz (zd:= .held _) (zp:= []) rfl (znG hs);rw[GH];cases hl:f s.data.toList with
 |none=>
  rw[(hD s.data.toList).2.2 hl]at hv;simp only[zdw,Option.some.injEq,Prod.mk.injEq,DataW.held.injEq]at hv;rw[hv.1];rfl
 |some u=>
  rw[(hD s.data.toList).2.1 u hl]at hv;simp only[zdw,Option.some.injEq,Prod.mk.injEq,DataW.held.injEq]at hv;rw[hv.1];rfl
