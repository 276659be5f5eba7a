/-
  FlowMay. No condition; the listed variables of Go's library are tied to its text.
-/
import Derived.Test.YtmfioehnhjjgpaaGreatDoorDrOrd13
import Derived.Test.YtmfioehnhjjgpaaGreatDoorJgFgMayU
import Derived.Test.YtmfioehnhjjgpaaGreatDoorFcFlowMay
import Derived.ChangeMaps5
import Derived.Deep.DeepHandedRow
set_option linter.unusedVariables false
set_option linter.unusedSimpArgs false
set_option maxHeartbeats 4000000
namespace Go.Proofs.YtmfioehnhjjgpaaGreatDoor.flowMay
open Go.ChangeMaps Go.ChangeShapes Go.WideShapes Go.ChangeAt Go.RowKit Go.Proofs.YtmfioehnhjjgpaaGreatDoor

theorem reads (os:Os) {H:Type} (enc:TypeId×Value→H):∃places,DataW.whole enc Tryz.prog ((World.doorLaid Tryz.prog 86 os).forCall (fun _ _=>0) ⟨#[], #[.agg #[.slice none 0 0,.slice none 0 0,.slice none 0 0,.slice none 0 0]], []⟩).memory Tryz.f3.params.toList Rows.flowMaySpec.vars false (#[.agg #[.slice none 0 0,.slice none 0 0,.slice none 0 0,.slice none 0 0]]:Array Value).toList 8=some ([.agg [.nil,.nil,.nil,.nil]], [],places):=
 ⟨[],by as_aux_lemma=>kernel_rfl⟩
theorem inOk (os:Os):Input.okWideB Tryz.prog ((World.doorLaid Tryz.prog 86 os).forCall (fun _ _=>0) ⟨#[], #[.agg #[.slice none 0 0,.slice none 0 0,.slice none 0 0,.slice none 0 0]], []⟩) 3 ⟨#[], #[.agg #[.slice none 0 0,.slice none 0 0,.slice none 0 0,.slice none 0 0]], []⟩=true:=by as_aux_lemma=>kernel_rfl
set_option maxRecDepth 100000 in
theorem lifted (os:Os) (started:os.Started) (H:Type) (enc:TypeId×Value→H) (F:Stop.Interp):
  ReturnsInHanded {} Tryz.checked os 3 .any ((Rows.OpenSpec.upto Rows.flowMaySpec).preRow enc Tryz.prog Tryz.f3 Rows.flowMayUptoRow.domain false Rows.flowMayUptoRow.laid) (((Rows.OpenSpec.upto Rows.flowMaySpec).at F).post enc Tryz.prog Tryz.f3 false true false false):=by
 obtain⟨places,hx⟩:=reads os enc
 refine returnsInHanded_of_row (C:=Tryz.checked) (s:=Rows.OpenSpec.upto Rows.flowMaySpec) prOwn started (by kernel_rfl) Tryz.func3
  ⟨World.doorLaid Tryz.prog 86 os,fun _ _=>0,⟨#[], #[.agg #[.slice none 0 0,.slice none 0 0,.slice none 0 0,.slice none 0 0]], []⟩,rfl,zmS os _,(Input.okWide_of_okWideB (base:=0) (inOk os)).1,(Input.okWide_of_okWideB (inOk os)).2,
   OpenSpec.preRow_of_cond 8 hx (by as_aux_lemma=>kernel_rfl) (fun k hk=>by cases hk;kernel_rfl) (by as_aux_lemma=>kernel_rfl) (zp9 os _),by
    simp only[Assume.holds]
    exact⟨by simp,by simp,fun _=>Modest.zero,by simp,by simp⟩⟩ ?_
 intro W base args ds gs before hval0 hW _ hcond hsz0 hL _ _
 have hval:∀(j:Nat) t v,Tryz.f3.params[j]?=some t→args[j]?=some v→Value.okWide Tryz.prog W .any base t v:=hval0
 have hsz:(DataW.weightsEach Tryz.prog (Tryz.f3.params.toList ++Rows.flowMaySpec.plain.varTypes Tryz.prog) (ds++gs)).all (· ≤reachBytes)=true:=hsz0
 have hW':=hW
 obtain⟨p,q,hA0,hV,rfl,hfz,hnd⟩:=hW
 have hA:DataW.TrodAll enc Tryz.prog W 0 (fun _=>true) true Tryz.f3.params.toList args.toList ds p:=hA0
 rw[Tryz.params3]at hA hval hsz
 obtain⟨v0,vs0,d0,ds0,p0,q0,hargs,rfl,rfl,h0,r0⟩:=trodAll_cons hA
 obtain⟨rfl,rfl,rfl⟩:=trodAll_nil r0
 obtain rfl:args= #[v0]:=by cases args;simp_all
 obtain⟨rfl,rfl⟩:=trodVars_none hV
 obtain⟨t0,Av0,Aa0,Ap0,Am0,cv0,ca0,cp0,cm0,rfl,tr0,sz0,bd0⟩:=zlI (hval 0 27 v0 rfl rfl) h0 (zdr (j:=0) rfl rfl hsz)
 have lt0:∀x∈p0,x.block < W.heap.size:=fun x hx=>hW'.lt x (by simp[hx])
 rw[MakeChecks.laidMetH_plain _ _ _ (by kernel_rfl)]at hL
 have he:=zfC hL
 have hbulk:=zpt (hcond _ rfl)
 simp only[List.append_nil,Rows.uptoBulkAll]at hbulk
 have mk0:=zqI h0 tr0
 clear hA0 hval0
 refine(zmo t0 W (Old W) False Av0 Aa0 Ap0 Am0 cv0 ca0 cp0 cm0 he (fun b hb=>hb) sz0 tr0 (by omega)).mono fun e W' ⟨he,hb⟩=>?_
 subst he
 exact⟨_,rfl,zfr (pa:=p0) (pv:= []) hW' (fun _ _ _=>(trodAll_cons_mk (shut_bool Tryz.underlying4 _) trodAll_mk0))
  (fun sp hsp=>by
   have:=(trodAll_cons_mk (WideElems.Trod_stays zkz (by kernel_rfl) (of_decide_eq_true (by kernel_rfl)) h0 (fun x hx=>hb.same (lt0 x hx)) (fun x hx=>hsp x (by simp[hx]))) trodAll_mk0)
   simp only[List.append_nil,List.nil_append]at this
   exact this)
  (fun _ _=>rfl) (by simp) hb (ok_one (by kernel_rfl) rfl (okWide_bool_mk Tryz.underlying4 _))⟩

theorem row:Rows.FlowMayUptoSaid:=
 OpenClaim.holds_of_cond 3 Tryz.f3 rfl rfl rfl rfl rfl rfl rfl ⟨rfl,rfl,rfl,rfl,rfl⟩ rfl rfl rfl rfl rfl (by kernel_rfl) Tryz.func3 zf8
  (of_decide_eq_true (by kernel_rfl)) (by unfold Func.isWrapper;first|(rw[if_pos (by decide+kernel)];kernel_rfl)|(rw[if_neg (by decide+kernel)];exact⟨rfl,rfl⟩))
  (fun os started H enc _ F=>by rw[OpenClaim.pre_eq_preRow];exact lifted os started H enc F)

theorem proved:Rows.FlowMayUptoCardSaid:=
 Claim7.holds_tied_plain_at .later [] [.data,.data,.data,.sentinel,.sentinel,.listed,.data] true (true, "7dc9d41ffdfa190047cf5057b23e6950d9402c7d4b3a9bb9b1f96f77d2c2e2d9") true
  row (fun _ h=>by cases h) (by kernel_rfl) (fun _ h=>by cases h) flowMayUpto_row_tie rfl ⟨rfl,rfl⟩ zqa rfl
  (fun f fn hf hfn=>by
   obtain rfl:f=3:=Option.some.inj ((show Tryz.prog.funcNamed "facetroom/facetroomlaw13.FlowMay" =some 3 by kernel_rfl).symm.trans hf) |>.symm
   obtain rfl:fn=Tryz.f3:=(Option.some.inj (Tryz.func3.symm.trans hfn)).symm
   exact⟨zo7,fun j t ht=>by
    rw[Tryz.params3]at ht
    match j,ht with
    |0,ht=>exact zmT _ (by simpa using ht)
    |j+1,ht=>simp at ht⟩)
  (by kernel_rfl)
end Go.Proofs.YtmfioehnhjjgpaaGreatDoor.flowMay
