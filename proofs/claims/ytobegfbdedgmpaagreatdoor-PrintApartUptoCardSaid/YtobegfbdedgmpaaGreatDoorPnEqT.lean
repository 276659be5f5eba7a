/-
  Trees that are the same have one text. No walk.
-/
import Derived.Test.YtobegfbdedgmpaaGreatDoorJnPnG
import Derived.Test.YtobegfbdedgmpaaGreatDoorJnPq
import Derived.Test.YtobegfbdedgmpaaGreatDoorJnCl
import Derived.Test.YtobegfbdedgmpaaGreatDoorPnRoom
set_option linter.unusedVariables false
set_option linter.unusedSimpArgs false
namespace Go.Proofs.YtobegfbdedgmpaaGreatDoor
open Go.RowKit

theorem nm_eq {a b:ByteArray} (h:a.toList=b.toList):a=b:=Go.WideShapes.bytes_inj ((toList_data a b).1 h)
theorem txX_eq:∀ {xs ys:Exs},eqX false xs ys=true→txX xs=txX ys
 | .nil,.nil,_=>rfl
 | .nil,.cons _ _ _ _ _ _,h=>by simp[eqX]at h
 | .cons _ _ _ _ _ _,.nil,h=>by simp[eqX]at h
 | .cons k nm n args a r,.cons k' nm' n' args' a' r',h=>by
  simp only[eqX,Bool.and_eq_true,beq_iff_eq]at h
  obtain⟨⟨⟨⟨⟨rfl,h2⟩,rfl⟩,_⟩,h4⟩,h5⟩:=h
  obtain rfl:=nm_eq h2
  simp only[txX,txX_eq h4,txX_eq h5]
theorem txC_eq:∀ {xs ys:Cds},eqC false xs ys=true→txC xs=txC ys
 | .nil,.nil,_=>rfl
 | .nil,.cons _ _ _ _ _,h=>by simp[eqC]at h
 | .cons _ _ _ _ _,.nil,h=>by simp[eqC]at h
 | .cons k args of_ a r,.cons k' args' of' a' r',h=>by
  simp only[eqC,Bool.and_eq_true,beq_iff_eq]at h
  obtain⟨⟨⟨⟨rfl,_⟩,h3⟩,h4⟩,h5⟩:=h
  simp only[txC,txX_eq h3,txC_eq h4,txC_eq h5]
theorem txS_eq:∀ {xs ys:Sts},eqS false xs ys=true→txS xs=txS ys
 | .nil,.nil,_=>rfl
 | .nil,.cons _ _ _ _ _ _ _ _,h=>by simp[eqS]at h
 | .cons _ _ _ _ _ _ _ _,.nil,h=>by simp[eqS]at h
 | .cons k nm args cond body els a r,.cons k' nm' args' cond' body' els' a' r',h=>by
  simp only[eqS,Bool.and_eq_true,beq_iff_eq]at h
  obtain⟨⟨⟨⟨⟨⟨⟨rfl,h2⟩,_⟩,h4⟩,h5⟩,h6⟩,h7⟩,h8⟩:=h
  obtain rfl:=nm_eq h2
  simp only[txS,txX_eq h4,txC_eq h5,txS_eq h6,txS_eq h7,txS_eq h8]
theorem nms_eq:∀ {xs ys:List Va},eqV false xs ys=true→xs.map Va.nm=ys.map Va.nm
 | [], [],_=>rfl
 | [],_::_,h=>by simp[eqV]at h
 |_::_, [],h=>by simp[eqV]at h
 |x::r,y::s,h=>by
  simp only[eqV,Bool.and_eq_true,beq_iff_eq]at h
  simp only[List.map_cons,nm_eq h.1.1,nms_eq h.2]
theorem namT_eq {xs ys:List Va} (h:eqV false xs ys=true):namT xs=namT ys∧varsT xs=varsT ys:=by
 have h1:=nms_eq h
 have h2:namT xs=namT ys:=by
  unfold namT
  have e:∀l:List Va,(l.map fun v=> [v.nm.data.toList])=(l.map Va.nm).map fun b=> [b.data.toList]:=fun l=>by rw[List.map_map];rfl
  rw[e,e,h1]
 refine⟨h2,?_⟩
 have h3:xs= []↔ys= []:=by
  have:=congrArg List.length h1
  simp only[List.length_map]at this
  rw[←List.length_eq_zero_iff,←List.length_eq_zero_iff,this]
 unfold varsT
 rw[h2]
 by_cases e:xs= []
 ·rw[if_pos e,if_pos (h3.1 e)]
 ·rw[if_neg e,if_neg (fun x=>e (h3.2 x))]
theorem arr_eq:∀ {xs ys:List Arr},eqA false xs ys=true→xs.map arrT=ys.map arrT
 | [], [],_=>rfl
 | [],_::_,h=>by simp[eqA]at h
 |_::_, [],h=>by simp[eqA]at h
 |x::r,y::s,h=>by
  simp only[eqA,Bool.and_eq_true,beq_iff_eq]at h
  have e1:=nm_eq h.1.1.1
  simp only[List.map_cons,arrT,e1,h.1.1.2,arr_eq h.2]
theorem arrsT_eq {xs ys:List Arr} (h:eqA false xs ys=true):arrsT xs=arrsT ys:=by
 have h1:=arr_eq h
 have h3:xs= []↔ys= []:=by
  have:=congrArg List.length h1
  simp only[List.length_map]at this
  rw[←List.length_eq_zero_iff,←List.length_eq_zero_iff,this]
 unfold arrsT
 rw[h1]
 by_cases e:xs= []
 ·rw[if_pos e,if_pos (h3.1 e)]
 ·rw[if_neg e,if_neg (fun x=>e (h3.2 x))]
theorem prcs_eq:∀ {xs ys:List Prc},eqP false xs ys=true→xs.flatMap prcT=ys.flatMap prcT
 | [], [],_=>rfl
 | [],_::_,h=>by simp[eqP]at h
 |_::_, [],h=>by simp[eqP]at h
 |x::r,y::s,h=>by
  simp only[eqP,Bool.and_eq_true,beq_iff_eq]at h
  obtain⟨⟨⟨⟨h1,_⟩,h3⟩,h4⟩,h5⟩:=h
  have e1:=nm_eq h1
  simp only[List.flatMap_cons,prcT,e1,(namT_eq h3).1,txS_eq h4,prcs_eq h5]
theorem printB_same {t u:Tre} (h:eqT false t u=true):printB t=printB u:=by
 unfold eqT at h
 simp only[Bool.and_eq_true]at h
 obtain⟨⟨⟨⟨⟨h1,_⟩,_⟩,h2⟩,h3⟩,h4⟩:=h
 unfold printB treT
 rw[(namT_eq h1).2,arrsT_eq h2,prcs_eq h3,txS_eq h4]
theorem printB_iff {t u:Tre} (ht:okTr t=true) (hu:okTr u=true) (rt:RgT t) (ru:RgT u):(printB t=printB u∧eqT false t u=true)∨(printB t≠printB u∧eqT false t u=false):=by
 by_cases h:printB t=printB u
 ·exact .inl ⟨h,eqT_alike (printB_inj ht hu rt ru h)⟩
 ·refine .inr ⟨h,?_⟩
  cases e:eqT false t u
  ·rfl
  ·exact absurd (printB_same e) h
end Go.Proofs.YtobegfbdedgmpaaGreatDoor
