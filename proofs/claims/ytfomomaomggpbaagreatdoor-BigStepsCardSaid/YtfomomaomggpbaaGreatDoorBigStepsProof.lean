/-
  BigSteps. No condition; the listed variables of Go's library are tied to its text.
-/
import Derived.Test.YtfomomaomggpbaaGreatDoorDrBig
import Derived.Test.YtfomomaomggpbaaGreatDoorJgBgSteps
import Derived.Test.YtfomomaomggpbaaGreatDoorFcBigSteps
import Derived.ChangeMaps5
set_option linter.unusedVariables false
set_option linter.unusedSimpArgs false
set_option maxHeartbeats 4000000
namespace Go.Proofs.YtfomomaomggpbaaGreatDoor.bigSteps
open Go.ChangeMaps Go.ChangeShapes Go.WideShapes Go.ChangeAt Go.RowKit Go.Proofs.YtfomomaomggpbaaGreatDoor

set_option maxRecDepth 100000 in
theorem lifted (os:Os) (started:os.Started) (H:Type) (enc:TypeId×Value→H):
  ReturnsInHanded {} Tryz.checked os 5 .any (fun w args=>(Rows.bigStepsSpec.pre enc Tryz.prog Tryz.f5 [] false w args∧laidMetH Tryz.prog Rows.bigStepsRow.laid w)∧sizedMet enc Tryz.prog Tryz.f5 (OpenSpec.ofChange Rows.bigStepsSpec) false w args)
   (Rows.bigStepsSpec.post enc Tryz.prog Tryz.f5 false true false false):=by
 refine returnsInHanded_of_change_and (C:=Tryz.checked) (X:=fun w _=>laidMetH Tryz.prog Rows.bigStepsRow.laid w) (fun _ _ _ hh h=>h.of_heap hh) prOwn started (by kernel_rfl) Tryz.func5
  (ChangeSpec.witness_shaped (enc:=enc) (C:=Tryz.checked) (os:=os) (X:=fun w _=>laidMetH Tryz.prog Rows.bigStepsRow.laid w) false (World.doorLaid Tryz.prog 86 os) #[.agg #[.slice none 0 0,.slice none 0 0,.slice none 0 0,.slice none 0 0],.slice none 0 0,.int .i64 0,.int .i64 0] 8 rfl (zmh os _) (by as_aux_lemma=>kernel_rfl) (by as_aux_lemma=>kernel_rfl) (by as_aux_lemma=>kernel_rfl) (zoH os _)) ?_
 intro W base args ds gs before hval0 hW _ hsz0 hL _
 have hval:∀(j:Nat) t v,Tryz.f5.params[j]?=some t→args[j]?=some v→Value.okWide Tryz.prog W .any base t v:=hval0
 have hsz:(DataW.weightsEach Tryz.prog (Tryz.f5.params.toList ++Rows.bigStepsSpec.plain.varTypes Tryz.prog) (ds++gs)).all (· ≤reachBytes)=true:=hsz0
 have hW':=hW
 obtain⟨p,q,hA0,hV,rfl,hfz,hnd⟩:=hW
 have hA:DataW.TrodAll enc Tryz.prog W 0 (fun _=>true) true Tryz.f5.params.toList args.toList ds p:=hA0
 rw[Tryz.params5]at hA hval hsz
 obtain⟨v0,vs0,d0,ds0,p0,q0,hargs,rfl,rfl,h0,r0⟩:=trodAll_cons hA
 obtain⟨v1,vs1,d1,ds1,p1,q1,rfl,rfl,rfl,h1,r1⟩:=trodAll_cons r0
 obtain⟨v2,vs2,d2,ds2,p2,q2,rfl,rfl,rfl,h2,r2⟩:=trodAll_cons r1
 obtain⟨v3,vs3,d3,ds3,p3,q3,rfl,rfl,rfl,h3,r3⟩:=trodAll_cons r2
 obtain⟨rfl,rfl,rfl⟩:=trodAll_nil r3
 obtain rfl:args= #[v0,v1,v2,v3]:=by cases args;simp_all
 obtain⟨rfl,rfl⟩:=trodVars_none hV
 obtain⟨t0,Av0,Aa0,Ap0,Am0,cv0,ca0,cp0,cm0,rfl,tr0,sz0,bd0⟩:=zjE (hval 0 27 v0 rfl rfl) h0 (zc7 (j:=0) rfl rfl hsz)
 have lt0:∀x∈p0,x.block < W.heap.size:=fun x hx=>hW'.lt x (by simp[hx])
 obtain⟨l1,As1,cs1,rfl,hs1,hn1⟩:∃(l:List Int) (A:Option Addr) (c:Nat),v1= .slice A l.length c∧IsSl W W.heap.size l A c∧(A=none→c=0):=by
  obtain⟨a,l,c,rfl⟩:=okWide_slice Tryz.underlying28 (hval 1 28 v1 rfl rfl)
  obtain⟨fuel,hf⟩:=h1
  exact zfn hf
 have lt1:∀x∈p1,x.block < W.heap.size:=fun x hx=>hW'.lt x (by simp[hx])
 obtain⟨a2,rfl,rfl,rfl,w2⟩:=open_int Tryz.underlying3 (hval 2 3 v2 rfl rfl) h2
 obtain⟨a3,rfl,rfl,rfl,w3⟩:=open_int Tryz.underlying3 (hval 3 3 v3 rfl rfl) h3
 rw[MakeChecks.laidMetH_plain _ _ _ (by kernel_rfl)]at hL
 have he:=zfz hL
 clear hA0 hval0
 refine(ziU t0 W (Old W) False Av0 Aa0 Ap0 Am0 cv0 ca0 cp0 cm0 l1 As1 cs1 a2 a3 he (fun b hb=>hb) sz0 tr0 hs1 hn1 (zkw w2) (zkw w3)).mono fun e W' ⟨he,hb⟩=>?_
 subst he
 exact⟨_,rfl,zfe (pa:=p0++(p1)) (pv:= []) hW' (fun _ _ _=>(trodAll_cons_mk (shut_bool Tryz.underlying4 _) trodAll_mk0))
  (fun sp hsp=>by
   have:=(trodAll_cons_mk (WideElems.Trod_stays zgv (by kernel_rfl) (of_decide_eq_true (by kernel_rfl)) h0 (fun x hx=>hb.same (lt0 x hx)) (fun x hx=>hsp x (by simp[hx]))) (trodAll_cons_mk (WideElems.Trod_stays zgv (by kernel_rfl) (of_decide_eq_true (by kernel_rfl)) h1 (fun x hx=>hb.same (lt1 x hx)) (fun x hx=>hsp x (by simp[hx]))) (trodAll_cons_mk (shut_int Tryz.underlying3 w2) (trodAll_cons_mk (shut_int Tryz.underlying3 w3) trodAll_mk0))))
   simp only[List.append_nil,List.nil_append]at this
   exact this)
  (fun _ _=>rfl) (by simp) hb (ok_one (by kernel_rfl) rfl (okWide_bool_mk Tryz.underlying4 _))⟩

theorem row:Rows.BigStepsSaid:=
 OpenClaim.holds_of_wide 5 Tryz.f5 rfl rfl rfl rfl rfl rfl rfl ⟨rfl,rfl,rfl,rfl,rfl⟩ rfl rfl rfl rfl rfl (by kernel_rfl) Tryz.func5 zey
  (of_decide_eq_true (by kernel_rfl)) (by unfold Func.isWrapper;first|(rw[if_pos (by decide+kernel)];kernel_rfl)|(rw[if_neg (by decide+kernel)];exact⟨rfl,rfl⟩))
  (fun os started H enc _=>lifted os started H enc)

theorem proved:Rows.BigStepsCardSaid:=
 Claim7.holds_tied_plain_at .later [] [.data,.data,.data,.sentinel,.sentinel,.listed,.data] true (true, "5c31c9d822e83984afe6256ff46db40cb3cdc31348078a8c3f9ed3e38ac137d3") true
  row (fun _ h=>by cases h) (by kernel_rfl) (fun _ h=>by cases h) bigSteps_row_tie rfl ⟨rfl,rfl⟩ zoI rfl
  (fun f fn hf hfn=>by
   obtain rfl:f=5:=Option.some.inj ((show Tryz.prog.funcNamed "facetroom/facetroomlaw15.BigSteps" =some 5 by kernel_rfl).symm.trans hf) |>.symm
   obtain rfl:fn=Tryz.f5:=(Option.some.inj (Tryz.func5.symm.trans hfn)).symm
   exact⟨znN,fun j t ht=>by
    rw[Tryz.params5]at ht
    match j,ht with
    |0,ht=>exact zmi _ (by simpa using ht)
    |1,ht=>exact zmj _ (by simpa using ht)
    |2,ht=>exact zhL _ (by simpa using ht)
    |3,ht=>exact zhL _ (by simpa using ht)
    |j+4,ht=>simp at ht⟩)
  (by kernel_rfl)
end Go.Proofs.YtfomomaomggpbaaGreatDoor.bigSteps
