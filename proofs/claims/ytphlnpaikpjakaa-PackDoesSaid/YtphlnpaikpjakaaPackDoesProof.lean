/-
  PackDoes: whatever graph, number, packs and scalar are given, packs are made, checked and looked through as the document says. No condition.
-/
import Derived.ProofKit
import Derived.Carry
import Derived.HandedShaped
import Derived.Test.YtphlnpaikpjakaaPjOpen
import Derived.Test.YtphlnpaikpjakaaPjDoes
set_option linter.unusedVariables false
set_option linter.unusedSimpArgs false
namespace Go.Proofs.Ytphlnpaikpjakaa.packDoes
open Go.ChangeShapes Go.WideShapes Go.ChangeAt Go.RowKit Go.Proofs.Ytphlnpaikpjakaa

theorem own:ownKnob Try.prog.godebug =none:=by kernel_rfl
theorem laidOut:laidOutB Try.prog =true:=by kernel_rfl

set_option maxRecDepth 100000 in
theorem lifted (os:Os) (started:os.Started) (H:Type) (enc:TypeId×Value→H):
  ReturnsInHanded {} Try.checked os 3 .any (Rows.packDoesSpec.pre6 enc Try.prog Try.f3 Rows.packDoesRow.domain false) (Rows.packDoesSpec.post enc Try.prog Try.f3 false true false false):=by
 refine returnsInHanded_of_change_shaped (C:=Try.checked) own started (by kernel_rfl) Try.func3
  (ChangeSpec.witness6 (enc:=enc) (C:=Try.checked) false ⟨#[], #[.agg #[.int .i64 0,.slice none 0 0,.int .i64 0,.int .i64 0,.int .i64 0,.slice none 0 0],.int .i64 0,.slice none 0 0,.int .i64 0], []⟩ 8 (by kernel_rfl) (by kernel_rfl) (by kernel_rfl) (by kernel_rfl)) ?_
 intro W base args ds gs before hval0 hW hcnd hsz0 _ _
 have hval:∀(j:Nat) t v,Try.f3.params[j]?=some t→args[j]?=some v→Value.okWide Try.prog W .any base t v:=hval0
 have hsz:(DataW.weightsEach Try.prog (Try.f3.params.toList ++Rows.packDoesSpec.plain.varTypes Try.prog) (ds++gs)).all (· ≤reachBytes)=true:=hsz0
 have hW':=hW
 obtain⟨p,q,hA0,hV,rfl,hfz,hnd⟩:=hW
 have hA:DataW.TrodAll enc Try.prog W 0 (fun _=>true) true Try.f3.params.toList args.toList ds p:=hA0
 rw[Try.params3]at hA hval hsz
 obtain⟨v0,vs0,d0,ds0,p0,q0,hargs,rfl,rfl,h0,r0⟩:=trodAll_cons hA
 obtain⟨v1,vs1,d1,ds1,p1,q1,rfl,rfl,rfl,h1,r1⟩:=trodAll_cons r0
 obtain⟨v2,vs2,d2,ds2,p2,q2,rfl,rfl,rfl,h2,r2⟩:=trodAll_cons r1
 obtain⟨v3,vs3,d3,ds3,p3,q3,rfl,rfl,rfl,h3,r3⟩:=trodAll_cons r2
 obtain⟨rfl,rfl,rfl⟩:=trodAll_nil r3
 obtain rfl:args= #[v0,v1,v2,v3]:=by cases args;simp_all
 obtain⟨rfl,rfl⟩:=trodVars_none hV
 obtain⟨g,Aa,Ae,ca,ce,rfl,hg,hnm⟩:=open_graphN (hval 0 25 v0 rfl rfl) h0 (wtP_get (j:=0) rfl rfl hsz)
 obtain⟨most,rfl,rfl,rfl,wm⟩:=open_int Try.underlying3 (hval 1 3 v1 rfl rfl) h1
 obtain⟨ls,hls⟩:∃l,LsM W W.heap.size l v2:=by
  obtain⟨a,l,c,rfl⟩:=okWide_slice Try.underlying26 (hval 2 26 v2 rfl rfl)
  obtain⟨fuel,hf⟩:=h2
  exact open_lists fuel _ _ hf
 obtain⟨n,rfl,rfl,rfl,wn⟩:=open_int Try.underlying3 (hval 3 3 v3 rfl rfl) h3
 clear hA0 hval0
 have lt0:∀x∈p0,x.block < W.heap.size:=fun x hx=>hW'.lt x (by simp[hx])
 have lt2:∀x∈p2,x.block < W.heap.size:=fun x hx=>hW'.lt x (by simp[hx])
 refine(pdoes_any g Aa Ae ca ce most n ls v2 W hg hnm hls (in64_of_wf wm)).mono fun e W' ⟨he,hb⟩=>?_
 subst he
 exact⟨_,rfl,post_of_below (pa:=p0++p2) (pv:= []) hW' (fun _ _ _=>(trodAll_cons_mk (shut_bool Try.underlying4 _) trodAll_mk0))
  (fun sp hsp=>by
   have e0:=WideElems.Trod_stays laidOut (by kernel_rfl) (of_decide_eq_true (by kernel_rfl)) h0 (fun x hx=>hb.same (lt0 x hx)) (fun x hx=>hsp x (by simp[hx]))
   have e2:=WideElems.Trod_stays laidOut (by kernel_rfl) (of_decide_eq_true (by kernel_rfl)) h2 (fun x hx=>hb.same (lt2 x hx)) (fun x hx=>hsp x (by simp[hx]))
   have:=trodAll_cons_mk e0 (trodAll_cons_mk (shut_int Try.underlying3 wm) (trodAll_cons_mk e2 (trodAll_cons_mk (shut_int Try.underlying3 wn) trodAll_mk0)))
   simp only[List.append_nil,List.nil_append]at this
   exact this)
  (fun _ _=>rfl) (by simp)
  hb (ok_one (by kernel_rfl) rfl (okWide_bool_mk Try.underlying4 _))⟩

theorem proved:Rows.PackDoesSaid:=
 OpenClaim.holds_of_wide 3 Try.f3 rfl rfl rfl rfl rfl rfl rfl ⟨rfl,rfl,rfl,rfl,rfl⟩ rfl rfl rfl rfl rfl (by kernel_rfl) Try.func3 (by kernel_rfl)
  (of_decide_eq_true (by kernel_rfl)) (by unfold Func.isWrapper;first|(rw[if_pos (by decide+kernel)];kernel_rfl)|(rw[if_neg (by decide+kernel)];exact⟨rfl,rfl⟩))
  (fun os started H enc _=>lifted os started H enc)
end Go.Proofs.Ytphlnpaikpjakaa.packDoes
