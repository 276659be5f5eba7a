/-
  SemNames. No condition; the listed variables of Go's library are tied to its text.
-/
import Derived.Test.YtobegfbdedgmpaaGreatDoorRows
import Derived.Test.YtobegfbdedgmpaaGreatDoorTie
import Derived.Test.YtobegfbdedgmpaaGreatDoorCards
import Derived.WalkKit
import Derived.ProofKit
import Derived.OpenShut
import Derived.Carry
import Derived.Stop.Joined
import Derived.Test.YtobegfbdedgmpaaGreatDoorDrFlow11
import Derived.Test.YtobegfbdedgmpaaGreatDoorJgSmAlive
import Derived.Test.YtobegfbdedgmpaaGreatDoorFcSemNames
import Derived.ChangeMaps5
set_option linter.unusedVariables false
set_option linter.unusedSimpArgs false
set_option maxHeartbeats 4000000
namespace Go.Proofs.YtobegfbdedgmpaaGreatDoor.semNames
open Go.ChangeMaps Go.ChangeShapes Go.WideShapes Go.ChangeAt Go.RowKit Go.Proofs.YtobegfbdedgmpaaGreatDoor

set_option maxRecDepth 100000 in
theorem lifted (os:Os) (started:os.Started) (H:Type) (enc:TypeId×Value→H):
  ReturnsInHanded {} Tryz.checked os 9 .any (fun w args=>(Rows.semNamesSpec.pre enc Tryz.prog Tryz.f9 [] false w args∧laidMetH Tryz.prog Rows.semNamesRow.laid w)∧sizedMet enc Tryz.prog Tryz.f9 (OpenSpec.ofChange Rows.semNamesSpec) false w args)
   (Rows.semNamesSpec.post enc Tryz.prog Tryz.f9 false true false false):=by
 refine returnsInHanded_of_change_and (C:=Tryz.checked) (X:=fun w _=>laidMetH Tryz.prog Rows.semNamesRow.laid w) (fun _ _ _ hh h=>h.of_heap hh) prOwn started (by kernel_rfl) Tryz.func9
  (ChangeSpec.witness_shaped (enc:=enc) (C:=Tryz.checked) (os:=os) (X:=fun w _=>laidMetH Tryz.prog Rows.semNamesRow.laid w) false (World.doorLaid Tryz.prog 86 os) #[] 8 rfl (prShaped os _) (by as_aux_lemma=>kernel_rfl) (by as_aux_lemma=>kernel_rfl) (by as_aux_lemma=>kernel_rfl) (prDoor os _)) ?_
 intro W base args ds gs before hval0 hW _ _ hL _
 have hW':=hW
 obtain⟨p,q,hA0,hV,rfl,hfz,hnd⟩:=hW
 have hA:DataW.TrodAll enc Tryz.prog W 0 (fun _=>true) true Tryz.f9.params.toList args.toList ds p:=hA0
 rw[Tryz.params9]at hA
 obtain⟨hargs,rfl,rfl⟩:=trodAll_none hA
 obtain rfl:args= #[]:=by cases args;simp_all
 obtain⟨rfl,rfl⟩:=trodVars_none hV
 rw[MakeChecks.laidMetH_plain _ _ _ (by kernel_rfl)]at hL
 have he:=names_of_laid hL
 clear hA0 hval0
 simp only[List.append_nil]at hW'
 refine(snames_any W he).mono fun e W' ⟨he,hb⟩=>?_
 subst he
 exact⟨_,rfl,post_of_below (pa:= []) (pv:= []) hW' (fun _ _ _=>(trodAll_cons_mk (shut_bool Tryz.underlying4 _) trodAll_mk0))
  (fun sp _=>trodAll_mk0) (fun _ _=>rfl) (by simp) hb (ok_one (by kernel_rfl) rfl (okWide_bool_mk Tryz.underlying4 _))⟩

theorem row:Rows.SemNamesSaid:=
 OpenClaim.holds_of_wide 9 Tryz.f9 rfl rfl rfl rfl rfl rfl rfl ⟨rfl,rfl,rfl,rfl,rfl⟩ rfl rfl rfl rfl rfl (by kernel_rfl) Tryz.func9 closedSemNames
  (of_decide_eq_true (by kernel_rfl)) (by unfold Func.isWrapper;first|(rw[if_pos (by decide+kernel)];kernel_rfl)|(rw[if_neg (by decide+kernel)];exact⟨rfl,rfl⟩))
  (fun os started H enc _=>lifted os started H enc)

theorem proved:Rows.SemNamesCardSaid:=
 Claim7.holds_tied_plain_at .later [] [.data,.data,.data,.sentinel,.sentinel,.listed,.data] true (true, "cb3c843aea171ab9ef0ca1c3960cb32d1c7537a8c48d592d65cf9be20e11ccd6") true
  row (fun _ h=>by cases h) (by kernel_rfl) (fun _ h=>by cases h) semNames_row_tie rfl ⟨rfl,rfl⟩ prMain rfl
  (fun f fn hf hfn=>by
   obtain rfl:f=9:=Option.some.inj ((show Tryz.prog.funcNamed "facetroom/facetroomlaw14.SemNames" =some 9 by kernel_rfl).symm.trans hf) |>.symm
   obtain rfl:fn=Tryz.f9:=(Option.some.inj (Tryz.func9.symm.trans hfn)).symm
   exact⟨prLooks,fun j t ht=>by
    rw[Tryz.params9]at ht
    simp at ht⟩)
  (by kernel_rfl)
end Go.Proofs.YtobegfbdedgmpaaGreatDoor.semNames
