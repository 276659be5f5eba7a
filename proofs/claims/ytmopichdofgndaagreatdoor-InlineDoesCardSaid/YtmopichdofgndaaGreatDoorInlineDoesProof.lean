/-
  InlineDoes. No condition; the listed variables of Go's library are tied to its text.
-/
import Derived.Test.YtmopichdofgndaaGreatDoorDrInl17
import Derived.Test.YtmopichdofgndaaGreatDoorInDoes
import Derived.Test.YtmopichdofgndaaGreatDoorFcInlineDoes
import Derived.ChangeMaps5
import Derived.Test.YtmopichdofgndaaGreatDoorTrOpen
set_option linter.unusedVariables false
set_option linter.unusedSimpArgs false
set_option maxHeartbeats 4000000
namespace Go.Proofs.YtmopichdofgndaaGreatDoor.inlineDoes
open Go.ChangeMaps Go.ChangeShapes Go.WideShapes Go.ChangeAt Go.RowKit Go.Proofs.YtmopichdofgndaaGreatDoor

set_option maxRecDepth 100000 in
theorem lifted (os:Os) (started:os.Started) (H:Type) (enc:TypeId×Value→H):
  ReturnsInHanded {} Tryz.checked os 3 .any (fun w args=>(Rows.inlineDoesSpec.pre enc Tryz.prog Tryz.f3 [] false w args∧laidMetH Tryz.prog Rows.inlineDoesRow.laid w)∧sizedMet enc Tryz.prog Tryz.f3 (OpenSpec.ofChange Rows.inlineDoesSpec) false w args)
   (Rows.inlineDoesSpec.post enc Tryz.prog Tryz.f3 false true false false):=by
 refine returnsInHanded_of_change_and (C:=Tryz.checked) (X:=fun w _=>laidMetH Tryz.prog Rows.inlineDoesRow.laid w) (fun _ _ _ hh h=>h.of_heap hh) prOwn started (by kernel_rfl) Tryz.func3
  (ChangeSpec.witness_shaped (enc:=enc) (C:=Tryz.checked) (os:=os) (X:=fun w _=>laidMetH Tryz.prog Rows.inlineDoesRow.laid w) false (World.doorLaid Tryz.prog 86 os) #[.agg #[.slice none 0 0,.slice none 0 0,.slice none 0 0,.slice none 0 0]] 8 rfl (prShaped os _) (by as_aux_lemma=>kernel_rfl) (by as_aux_lemma=>kernel_rfl) (by as_aux_lemma=>kernel_rfl) (prDoor os _)) ?_
 intro W base args ds gs before hval0 hW _ hsz0 hL _
 have hval:∀(j:Nat) t v,Tryz.f3.params[j]?=some t→args[j]?=some v→Value.okWide Tryz.prog W .any base t v:=hval0
 have hsz:(DataW.weightsEach Tryz.prog (Tryz.f3.params.toList ++Rows.inlineDoesSpec.plain.varTypes Tryz.prog) (ds++gs)).all (· ≤reachBytes)=true:=hsz0
 have hW':=hW
 obtain⟨p,q,hA0,hV,rfl,hfz,hnd⟩:=hW
 have hA:DataW.TrodAll enc Tryz.prog W 0 (fun _=>true) true Tryz.f3.params.toList args.toList ds p:=hA0
 rw[Tryz.params3]at hA hval hsz
 obtain⟨v0,vs0,d0,ds0,p0,q0,hargs,rfl,rfl,h0,r0⟩:=trodAll_cons hA
 obtain⟨rfl,rfl,rfl⟩:=trodAll_nil r0
 obtain rfl:args= #[v0]:=by cases args;simp_all
 obtain⟨rfl,rfl⟩:=trodVars_none hV
 obtain⟨t0,Av0,Aa0,Ap0,Am0,cv0,ca0,cp0,cm0,rfl,tr0,sz0,bd0⟩:=open_tree (hval 0 27 v0 rfl rfl) h0 (wtEach_get (j:=0) rfl rfl hsz)
 have lt0:∀x∈p0,x.block < W.heap.size:=fun x hx=>hW'.lt x (by simp[hx])
 rw[MakeChecks.laidMetH_plain _ _ _ (by kernel_rfl)]at hL
 have he:=names_of_laid hL
 clear hA0 hval0
 refine(indoes_any t0 W (Old W) False Av0 Aa0 Ap0 Am0 cv0 ca0 cp0 cm0 he (fun b hb=>hb) sz0 tr0).mono fun e W' ⟨he,hb⟩=>?_
 subst he
 exact⟨_,rfl,post_of_below (pa:=p0) (pv:= []) hW' (fun _ _ _=>(trodAll_cons_mk (shut_bool Tryz.underlying4 _) trodAll_mk0))
  (fun sp hsp=>by
   have:=(trodAll_cons_mk (WideElems.Trod_stays prLaidOut (by kernel_rfl) (of_decide_eq_true (by kernel_rfl)) h0 (fun x hx=>hb.same (lt0 x hx)) (fun x hx=>hsp x (by simp[hx]))) trodAll_mk0)
   simp only[List.append_nil,List.nil_append]at this
   exact this)
  (fun _ _=>rfl) (by simp) hb (ok_one (by kernel_rfl) rfl (okWide_bool_mk Tryz.underlying4 _))⟩

theorem row:Rows.InlineDoesSaid:=
 OpenClaim.holds_of_wide 3 Tryz.f3 rfl rfl rfl rfl rfl rfl rfl ⟨rfl,rfl,rfl,rfl,rfl⟩ rfl rfl rfl rfl rfl (by kernel_rfl) Tryz.func3 closedInlineDoes
  (of_decide_eq_true (by kernel_rfl)) (by unfold Func.isWrapper;first|(rw[if_pos (by decide+kernel)];kernel_rfl)|(rw[if_neg (by decide+kernel)];exact⟨rfl,rfl⟩))
  (fun os started H enc _=>lifted os started H enc)

theorem proved:Rows.InlineDoesCardSaid:=
 Claim7.holds_tied_plain_at .later [] [.data,.data,.data,.listed,.data] true (true, "51ef406f2d5a0d417f580c0b364799e75fa54428d24acddb007ba4c6a60a1c14") false
  row (fun _ h=>by cases h) (by kernel_rfl) (fun _ h=>by cases h) inlineDoes_row_tie rfl ⟨rfl,rfl⟩ prMain rfl
  (fun f fn hf hfn=>by
   obtain rfl:f=3:=Option.some.inj ((show Tryz.prog.funcNamed "facetroom/facetroomlaw12.InlineDoes" =some 3 by kernel_rfl).symm.trans hf) |>.symm
   obtain rfl:fn=Tryz.f3:=(Option.some.inj (Tryz.func3.symm.trans hfn)).symm
   exact⟨prLooks,fun j t ht=>by
    rw[Tryz.params3]at ht
    match j,ht with
    |0,ht=>exact prStandT _ (by simpa using ht)
    |j+1,ht=>simp at ht⟩)
  (by kernel_rfl)
end Go.Proofs.YtmopichdofgndaaGreatDoor.inlineDoes
