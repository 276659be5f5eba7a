/-
  FlowGraphs. No condition; the listed variables of Go's library are tied to its text.
-/
import Derived.Test.YtmopichdofgndaaGreatDoorDrInl17
import Derived.Test.YtmopichdofgndaaGreatDoorJgTrCd
import Derived.Test.YtmopichdofgndaaGreatDoorFcFlowGraphs
import Derived.ChangeMaps5
import Derived.Deep.DeepHandedRow
set_option linter.unusedVariables false
set_option linter.unusedSimpArgs false
set_option maxHeartbeats 4000000
namespace Go.Proofs.YtmopichdofgndaaGreatDoor.flowGraphs
open Go.ChangeMaps Go.ChangeShapes Go.WideShapes Go.ChangeAt Go.RowKit Go.Proofs.YtmopichdofgndaaGreatDoor

theorem reads (os:Os) {H:Type} (enc:TypeId×Value→H):∃places,DataW.whole enc Tryz.prog ((World.doorLaid Tryz.prog 86 os).forCall (fun _ _=>0) ⟨#[], #[.agg #[.slice none 0 0,.slice none 0 0,.slice none 0 0,.slice none 0 0]], []⟩).memory Tryz.f5.params.toList Rows.flowGraphsSpec.vars false (#[.agg #[.slice none 0 0,.slice none 0 0,.slice none 0 0,.slice none 0 0]]:Array Value).toList 8=some ([.agg [.nil,.nil,.nil,.nil]], [],places):=
 ⟨[],by as_aux_lemma=>kernel_rfl⟩
theorem inOk (os:Os):Input.okWideB Tryz.prog ((World.doorLaid Tryz.prog 86 os).forCall (fun _ _=>0) ⟨#[], #[.agg #[.slice none 0 0,.slice none 0 0,.slice none 0 0,.slice none 0 0]], []⟩) 5 ⟨#[], #[.agg #[.slice none 0 0,.slice none 0 0,.slice none 0 0,.slice none 0 0]], []⟩=true:=by as_aux_lemma=>kernel_rfl
set_option maxRecDepth 100000 in
theorem lifted (os:Os) (started:os.Started) (H:Type) (enc:TypeId×Value→H) (F:Stop.Interp):
  ReturnsInHanded {} Tryz.checked os 5 .any ((Rows.OpenSpec.upto Rows.flowGraphsSpec).preRow enc Tryz.prog Tryz.f5 Rows.flowGraphsUptoRow.domain false Rows.flowGraphsUptoRow.laid) (((Rows.OpenSpec.upto Rows.flowGraphsSpec).at F).post enc Tryz.prog Tryz.f5 false true false false):=by
 obtain⟨places,hx⟩:=reads os enc
 refine returnsInHanded_of_row (C:=Tryz.checked) (s:=Rows.OpenSpec.upto Rows.flowGraphsSpec) prOwn started (by kernel_rfl) Tryz.func5
  ⟨World.doorLaid Tryz.prog 86 os,fun _ _=>0,⟨#[], #[.agg #[.slice none 0 0,.slice none 0 0,.slice none 0 0,.slice none 0 0]], []⟩,rfl,zlr os _,(Input.okWide_of_okWideB (base:=0) (inOk os)).1,(Input.okWide_of_okWideB (inOk os)).2,
   OpenSpec.preRow_of_cond 8 hx (by as_aux_lemma=>kernel_rfl) (fun k hk=>by cases hk;kernel_rfl) (by as_aux_lemma=>kernel_rfl) (znx os _),by
    simp only[Assume.holds]
    exact⟨by simp,by simp,fun _=>Modest.zero,by simp,by simp⟩⟩ ?_
 intro W base args ds gs before hval0 hW _ hcond hsz0 hL _ _
 have hval:∀(j:Nat) t v,Tryz.f5.params[j]?=some t→args[j]?=some v→Value.okWide Tryz.prog W .any base t v:=hval0
 have hsz:(DataW.weightsEach Tryz.prog (Tryz.f5.params.toList ++Rows.flowGraphsSpec.plain.varTypes Tryz.prog) (ds++gs)).all (· ≤reachBytes)=true:=hsz0
 have hW':=hW
 obtain⟨p,q,hA0,hV,rfl,hfz,hnd⟩:=hW
 have hA:DataW.TrodAll enc Tryz.prog W 0 (fun _=>true) true Tryz.f5.params.toList args.toList ds p:=hA0
 rw[Tryz.params5]at hA hval hsz
 obtain⟨v0,vs0,d0,ds0,p0,q0,hargs,rfl,rfl,h0,r0⟩:=trodAll_cons hA
 obtain⟨rfl,rfl,rfl⟩:=trodAll_nil r0
 obtain rfl:args= #[v0]:=by cases args;simp_all
 obtain⟨rfl,rfl⟩:=trodVars_none hV
 obtain⟨t0,Av0,Aa0,Ap0,Am0,cv0,ca0,cp0,cm0,rfl,tr0,sz0,bd0⟩:=zjW (hval 0 27 v0 rfl rfl) h0 (zcT (j:=0) rfl rfl hsz)
 have lt0:∀x∈p0,x.block < W.heap.size:=fun x hx=>hW'.lt x (by simp[hx])
 rw[MakeChecks.laidMetH_plain _ _ _ (by kernel_rfl)]at hL
 have he:=zfe hL
 have hbulk:=zmI (hcond _ rfl)
 simp only[List.append_nil,Rows.uptoBulkAll]at hbulk
 have mk0:=zns h0 tr0
 clear hA0 hval0
 refine(ziA t0 W (Old W) False Av0 Aa0 Ap0 Am0 cv0 ca0 cp0 cm0 he (fun b hb=>hb) sz0 tr0 (by omega)).mono fun e W' ⟨he,hb⟩=>?_
 subst he
 exact⟨_,rfl,zeQ (pa:=p0) (pv:= []) hW' (fun _ _ _=>(trodAll_cons_mk (shut_bool Tryz.underlying4 _) trodAll_mk0))
  (fun sp hsp=>by
   have:=(trodAll_cons_mk (WideElems.Trod_stays zjY (by kernel_rfl) (of_decide_eq_true (by kernel_rfl)) h0 (fun x hx=>hb.same (lt0 x hx)) (fun x hx=>hsp x (by simp[hx]))) trodAll_mk0)
   simp only[List.append_nil,List.nil_append]at this
   exact this)
  (fun _ _=>rfl) (by simp) hb (ok_one (by kernel_rfl) rfl (okWide_bool_mk Tryz.underlying4 _))⟩

theorem row:Rows.FlowGraphsUptoSaid:=
 OpenClaim.holds_of_cond 5 Tryz.f5 rfl rfl rfl rfl rfl rfl rfl ⟨rfl,rfl,rfl,rfl,rfl⟩ rfl rfl rfl rfl rfl (by kernel_rfl) Tryz.func5 zc5
  (of_decide_eq_true (by kernel_rfl)) (by unfold Func.isWrapper;first|(rw[if_pos (by decide+kernel)];kernel_rfl)|(rw[if_neg (by decide+kernel)];exact⟨rfl,rfl⟩))
  (fun os started H enc _ F=>by rw[OpenClaim.pre_eq_preRow];exact lifted os started H enc F)

theorem proved:Rows.FlowGraphsUptoCardSaid:=
 Claim7.holds_tied_plain_at .later [] [.data,.data,.data,.listed,.data] true (true, "51ef406f2d5a0d417f580c0b364799e75fa54428d24acddb007ba4c6a60a1c14") false
  row (fun _ h=>by cases h) (by kernel_rfl) (fun _ h=>by cases h) flowGraphsUpto_row_tie rfl ⟨rfl,rfl⟩ zny rfl
  (fun f fn hf hfn=>by
   obtain rfl:f=5:=Option.some.inj ((show Tryz.prog.funcNamed "facetroom/facetroomlaw13.FlowGraphs" =some 5 by kernel_rfl).symm.trans hf) |>.symm
   obtain rfl:fn=Tryz.f5:=(Option.some.inj (Tryz.func5.symm.trans hfn)).symm
   exact⟨zmJ,fun j t ht=>by
    rw[Tryz.params5]at ht
    match j,ht with
    |0,ht=>exact zls _ (by simpa using ht)
    |j+1,ht=>simp at ht⟩)
  (by kernel_rfl)
end Go.Proofs.YtmopichdofgndaaGreatDoor.flowGraphs
