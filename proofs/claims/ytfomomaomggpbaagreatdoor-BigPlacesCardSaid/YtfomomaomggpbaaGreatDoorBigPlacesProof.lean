/-
  BigPlaces. No condition; the listed variables of Go's library are tied to its text.
-/
import Derived.Test.YtfomomaomggpbaaGreatDoorDrBig
import Derived.Test.YtfomomaomggpbaaGreatDoorBgPlaces
import Derived.Test.YtfomomaomggpbaaGreatDoorFcBigPlaces
import Derived.ChangeMaps5
set_option linter.unusedVariables false
set_option linter.unusedSimpArgs false
set_option maxHeartbeats 4000000
namespace Go.Proofs.YtfomomaomggpbaaGreatDoor.bigPlaces
open Go.ChangeMaps Go.ChangeShapes Go.WideShapes Go.ChangeAt Go.RowKit Go.Proofs.YtfomomaomggpbaaGreatDoor

set_option maxRecDepth 100000 in
theorem lifted (os:Os) (started:os.Started) (H:Type) (enc:TypeId×Value→H):
  ReturnsInHanded {} Tryz.checked os 6 .any (fun w args=>(Rows.bigPlacesSpec.pre enc Tryz.prog Tryz.f6 [] false w args∧laidMetH Tryz.prog Rows.bigPlacesRow.laid w)∧sizedMet enc Tryz.prog Tryz.f6 (OpenSpec.ofChange Rows.bigPlacesSpec) false w args)
   (Rows.bigPlacesSpec.post enc Tryz.prog Tryz.f6 false true false false):=by
 refine returnsInHanded_of_change_and (C:=Tryz.checked) (X:=fun w _=>laidMetH Tryz.prog Rows.bigPlacesRow.laid w) (fun _ _ _ hh h=>h.of_heap hh) prOwn started (by kernel_rfl) Tryz.func6
  (ChangeSpec.witness_shaped (enc:=enc) (C:=Tryz.checked) (os:=os) (X:=fun w _=>laidMetH Tryz.prog Rows.bigPlacesRow.laid w) false (World.doorLaid Tryz.prog 86 os) #[.agg #[.slice none 0 0,.slice none 0 0,.slice none 0 0,.slice none 0 0],.slice none 0 0,.int .i64 0] 8 rfl (zmX os _) (by as_aux_lemma=>kernel_rfl) (by as_aux_lemma=>kernel_rfl) (by as_aux_lemma=>kernel_rfl) (zp0 os _)) ?_
 intro W base args ds gs before hval0 hW _ hsz0 hL _
 have hval:∀(j:Nat) t v,Tryz.f6.params[j]?=some t→args[j]?=some v→Value.okWide Tryz.prog W .any base t v:=hval0
 have hsz:(DataW.weightsEach Tryz.prog (Tryz.f6.params.toList ++Rows.bigPlacesSpec.plain.varTypes Tryz.prog) (ds++gs)).all (· ≤reachBytes)=true:=hsz0
 have hW':=hW
 obtain⟨p,q,hA0,hV,rfl,hfz,hnd⟩:=hW
 have hA:DataW.TrodAll enc Tryz.prog W 0 (fun _=>true) true Tryz.f6.params.toList args.toList ds p:=hA0
 rw[Tryz.params6]at hA hval hsz
 obtain⟨v0,vs0,d0,ds0,p0,q0,hargs,rfl,rfl,h0,r0⟩:=trodAll_cons hA
 obtain⟨v1,vs1,d1,ds1,p1,q1,rfl,rfl,rfl,h1,r1⟩:=trodAll_cons r0
 obtain⟨v2,vs2,d2,ds2,p2,q2,rfl,rfl,rfl,h2,r2⟩:=trodAll_cons r1
 obtain⟨rfl,rfl,rfl⟩:=trodAll_nil r2
 obtain rfl:args= #[v0,v1,v2]:=by cases args;simp_all
 obtain⟨rfl,rfl⟩:=trodVars_none hV
 obtain⟨t0,Av0,Aa0,Ap0,Am0,cv0,ca0,cp0,cm0,rfl,tr0,sz0,bd0⟩:=zkU (hval 0 27 v0 rfl rfl) h0 (zdq (j:=0) rfl rfl hsz)
 have lt0:∀x∈p0,x.block < W.heap.size:=fun x hx=>hW'.lt x (by simp[hx])
 obtain⟨l1,As1,cs1,rfl,hs1,hn1⟩:∃(l:List Int) (A:Option Addr) (c:Nat),v1= .slice A l.length c∧IsSl W W.heap.size l A c∧(A=none→c=0):=by
  obtain⟨a,l,c,rfl⟩:=okWide_slice Tryz.underlying28 (hval 1 28 v1 rfl rfl)
  obtain⟨fuel,hf⟩:=h1
  exact zfU hf
 have lt1:∀x∈p1,x.block < W.heap.size:=fun x hx=>hW'.lt x (by simp[hx])
 obtain⟨a2,rfl,rfl,rfl,w2⟩:=open_int Tryz.underlying3 (hval 2 3 v2 rfl rfl) h2
 rw[MakeChecks.laidMetH_plain _ _ _ (by kernel_rfl)]at hL
 have he:=zfP hL
 clear hA0 hval0
 refine(zhX t0 W (Old W) False Av0 Aa0 Ap0 Am0 cv0 ca0 cp0 cm0 l1 As1 cs1 a2 he (fun b hb=>hb) sz0 tr0 bd0 hs1 hn1 (zoS w2)).mono fun e W' ⟨he,hb⟩=>?_
 subst he
 exact⟨_,rfl,zfD (pa:=p0++(p1)) (pv:= []) hW' (fun _ _ _=>(trodAll_cons_mk (shut_bool Tryz.underlying4 _) trodAll_mk0))
  (fun sp hsp=>by
   have:=(trodAll_cons_mk (WideElems.Trod_stays zgM (by kernel_rfl) (of_decide_eq_true (by kernel_rfl)) h0 (fun x hx=>hb.same (lt0 x hx)) (fun x hx=>hsp x (by simp[hx]))) (trodAll_cons_mk (WideElems.Trod_stays zgM (by kernel_rfl) (of_decide_eq_true (by kernel_rfl)) h1 (fun x hx=>hb.same (lt1 x hx)) (fun x hx=>hsp x (by simp[hx]))) (trodAll_cons_mk (shut_int Tryz.underlying3 w2) trodAll_mk0)))
   simp only[List.append_nil,List.nil_append]at this
   exact this)
  (fun _ _=>rfl) (by simp) hb (ok_one (by kernel_rfl) rfl (okWide_bool_mk Tryz.underlying4 _))⟩

theorem row:Rows.BigPlacesSaid:=
 OpenClaim.holds_of_wide 6 Tryz.f6 rfl rfl rfl rfl rfl rfl rfl ⟨rfl,rfl,rfl,rfl,rfl⟩ rfl rfl rfl rfl rfl (by kernel_rfl) Tryz.func6 zeP
  (of_decide_eq_true (by kernel_rfl)) (by unfold Func.isWrapper;first|(rw[if_pos (by decide+kernel)];kernel_rfl)|(rw[if_neg (by decide+kernel)];exact⟨rfl,rfl⟩))
  (fun os started H enc _=>lifted os started H enc)

theorem proved:Rows.BigPlacesCardSaid:=
 Claim7.holds_tied_plain_at .later [] [.data,.data,.data,.sentinel,.sentinel,.listed,.data] true (true, "5c31c9d822e83984afe6256ff46db40cb3cdc31348078a8c3f9ed3e38ac137d3") true
  row (fun _ h=>by cases h) (by kernel_rfl) (fun _ h=>by cases h) bigPlaces_row_tie rfl ⟨rfl,rfl⟩ zp1 rfl
  (fun f fn hf hfn=>by
   obtain rfl:f=6:=Option.some.inj ((show Tryz.prog.funcNamed "facetroom/facetroomlaw15.BigPlaces" =some 6 by kernel_rfl).symm.trans hf) |>.symm
   obtain rfl:fn=Tryz.f6:=(Option.some.inj (Tryz.func6.symm.trans hfn)).symm
   exact⟨zoR,fun j t ht=>by
    rw[Tryz.params6]at ht
    match j,ht with
    |0,ht=>exact zmY _ (by simpa using ht)
    |1,ht=>exact zm0 _ (by simpa using ht)
    |2,ht=>exact zmZ _ (by simpa using ht)
    |j+3,ht=>simp at ht⟩)
  (by kernel_rfl)
end Go.Proofs.YtfomomaomggpbaaGreatDoor.bigPlaces
