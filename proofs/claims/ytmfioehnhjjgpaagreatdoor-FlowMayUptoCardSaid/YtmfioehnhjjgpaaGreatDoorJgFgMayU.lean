/-
  A tree that is no bulk has no great condition. No walk.
-/
import Derived.Test.YtmfioehnhjjgpaaGreatDoorTrBulk
import Derived.Test.YtmfioehnhjjgpaaGreatDoorFgMay
set_option linter.unusedVariables false
set_option linter.unusedSimpArgs false
namespace Go.Proofs.YtmfioehnhjjgpaaGreatDoor
open Go.RowKit Go.Shelf Go.Maps

theorem zmn:∀c:Cds,szN c≤2*mC c
 | .nil =>lrq _
 | .cons _ args of_ _ r=>by
  have h1:=zmn of_
  have h2:=zmn r
  simp only[szN,mC]
  omega
theorem zhn:∀xs:Sts,mS xs≤1048576→cdM 1000000000 xs
 | .nil,_=>trivial
 | .cons _ nm args cond body els _ r,h=>by
  simp only[mS]at h
  have h1:=zmn cond
  exact⟨by omega,zhn body (by omega),zhn els (by omega),zhn r (by omega)⟩
theorem zoF:∀ {l:List Prc} {x:Prc},x∈l→mS x.body≤mP l
 | [],_,h=>by simp at h
 |p::r,x,h=>by
  simp only[mP]
  rcases List.mem_cons.1 h with rfl|h
  ·omega
  ·have:=zoF h;omega
theorem zra {t:Tre} (h:mT t≤1048576):CdT 1000000000 t:=by
 unfold mT at h
 exact⟨zhn _ (by omega),fun x hx=>zhn _ (by have:=zoF hx;omega)⟩

theorem zmo (t:Tre) (w:World) (S:Nat→Prop) (Z:Prop) (Av Aa Ap Am:Option Addr) (cv ca cp cm:Nat) (he:NameEnv w) (hS:∀b,S b→b < w.heap.size) (hsz:SzT t) (hx:TrR w S Z t Av Aa Ap Am cv ca cp cm) (hm:mT t≤1048576):
  Calls Tryz.prog 3 #[trV t Av Aa Ap Am cv ca cp cm] w (zf0 w):=
 znR t w S Z Av Aa Ap Am cv ca cp cm he hS hsz (zra hm) hx
end Go.Proofs.YtmfioehnhjjgpaaGreatDoor
