/-
  Plain grammar: texts by their tokens, places left out. No program.
-/
import Derived.Test.YtobegfbdedgmpaaGreatDoorJnGrC
import Derived.Test.YtobegfbdedgmpaaGreatDoorJnPl
import Derived.Test.YtobegfbdedgmpaaGreatDoorJnLex
import Derived.Test.YtobegfbdedgmpaaGreatDoorJnLoc
import Derived.Test.YtobegfbdedgmpaaGreatDoorJnPs
set_option linter.unusedVariables false
set_option linter.unusedSimpArgs false
namespace Go.Proofs.YtobegfbdedgmpaaGreatDoor
open Go.RowKit Go.Shelf

def KT (l:List UInt8) (ks:List Tk):Prop:=∀p,∃ts,tokL l p=(ts,0,0)∧ts.map Tk.bare=ks
theorem KT.nil:KT [] []:=fun p=>⟨[],tokL_nil rfl,rfl⟩
theorem KT.tok {k:Int} {u v:List UInt8} {ks:List Tk} (h:firstT (u++v)=(k,u.length,0)) (hr:KT v ks):KT (u++v) (⟨k,u,0⟩::ks):=fun p=>by
 have hb:=fT_blk h
 obtain⟨ts,h1,h2⟩:=hr (p+u.length)
 refine⟨_,tokL_mk (l:=u++v) (p:=p) (by rw[hb];rfl) h (by rw[hb,Nat.add_zero];exact h1),?_⟩
 rw[List.map_cons,h2]
 rfl
theorem KT.blank {B l:List UInt8} {ks:List Tk} (hB:∀b∈B,isBlk b=true) (h:KT l ks):KT (B++l) ks:=fun p=>by
 obtain⟨ts,h1,h2⟩:=h (p+B.length)
 exact⟨ts,by rw[tokL_blank B l p hB];exact h1,h2⟩
end Go.Proofs.YtobegfbdedgmpaaGreatDoor
