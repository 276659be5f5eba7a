/-
  law13.FlowCounts at a tree that is no bulk. No walk.
-/
import Derived.Test.YtobegfbdedgmpaaGreatDoorFgCounts
import Derived.Test.YtobegfbdedgmpaaGreatDoorTrBulk
set_option linter.unusedVariables false
set_option linter.unusedSimpArgs false
namespace Go.Proofs.YtobegfbdedgmpaaGreatDoor
open Go.RowKit Go.Shelf Go.Maps

theorem szN_mC:∀c:Cds,szN c≤2*mC c
 | .nil =>Nat.le_refl _
 | .cons _ args of_ _ r=>by
  have h1:=szN_mC of_
  have h2:=szN_mC r
  simp only[szN,mC]
  omega
theorem cdM_mS:∀xs:Sts,mS xs≤1048576→cdM 1000000000 xs
 | .nil,_=>trivial
 | .cons _ nm args cond body els _ r,h=>by
  simp only[mS]at h
  have h1:=szN_mC cond
  exact⟨by omega,cdM_mS body (by omega),cdM_mS els (by omega),cdM_mS r (by omega)⟩
theorem mP_mem:∀ {l:List Prc} {x:Prc},x∈l→mS x.body≤mP l
 | [],_,h=>by simp at h
 |p::r,x,h=>by
  simp only[mP]
  rcases List.mem_cons.1 h with rfl|h
  ·omega
  ·have:=mP_mem h;omega
theorem cdT_mT {t:Tre} (h:mT t≤1048576):CdT 1000000000 t:=by
 unfold mT at h
 exact⟨cdM_mS _ (by omega),fun x hx=>cdM_mS _ (by have:=mP_mem hx;omega)⟩
theorem fcountsU_any (t:Tre) (w:World) (S:Nat→Prop) (Z:Prop) (Av Aa Ap Am:Option Addr) (cv ca cp cm:Nat) (he:NameEnv w) (hS:∀b,S b→b < w.heap.size) (hsz:SzT t) (hx:TrR w S Z t Av Aa Ap Am cv ca cp cm) (hm:mT t≤1048576):
  Calls Tryz.prog 6 #[trV t Av Aa Ap Am cv ca cp cm] w (TruePost w):=
 fcounts_any t w S Z Av Aa Ap Am cv ca cp cm he hS hsz (cdT_mT hm) hx
end Go.Proofs.YtobegfbdedgmpaaGreatDoor
