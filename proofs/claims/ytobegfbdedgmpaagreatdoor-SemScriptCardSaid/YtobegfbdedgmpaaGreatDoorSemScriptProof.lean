/-
  SemScript. No condition; the listed variables of Go's library are tied to its text.
-/
import Derived.Test.YtobegfbdedgmpaaGreatDoorRows
import Derived.Test.YtobegfbdedgmpaaGreatDoorTie
import Derived.Test.YtobegfbdedgmpaaGreatDoorCards
import Derived.WalkKit
import Derived.ProofKit
import Derived.OpenShut
import Derived.Carry
import Derived.Stop.Joined
import Derived.Test.YtobegfbdedgmpaaGreatDoorDrFlow11
import Derived.Test.YtobegfbdedgmpaaGreatDoorJgSmScript
import Derived.Test.YtobegfbdedgmpaaGreatDoorFcSemScript
import Derived.ChangeMaps5
import Derived.Test.YtobegfbdedgmpaaGreatDoorJgFlOq
set_option linter.unusedVariables false
set_option linter.unusedSimpArgs false
set_option maxHeartbeats 4000000
namespace Go.Proofs.YtobegfbdedgmpaaGreatDoor.semScript
open Go.ChangeMaps Go.ChangeShapes Go.WideShapes Go.ChangeAt Go.RowKit Go.Proofs.YtobegfbdedgmpaaGreatDoor

set_option maxRecDepth 100000 in
theorem lifted (os:Os) (started:os.Started) (H:Type) (enc:TypeId×Value→H):
  ReturnsInHanded {} Tryz.checked os 13 .any (fun w args=>(Rows.semScriptSpec.pre enc Tryz.prog Tryz.f13 [] false w args∧laidMetH Tryz.prog Rows.semScriptRow.laid w)∧sizedMet enc Tryz.prog Tryz.f13 (OpenSpec.ofChange Rows.semScriptSpec) false w args)
   (Rows.semScriptSpec.post enc Tryz.prog Tryz.f13 false true false false):=by
 refine returnsInHanded_of_change_and (C:=Tryz.checked) (X:=fun w _=>laidMetH Tryz.prog Rows.semScriptRow.laid w) (fun _ _ _ hh h=>h.of_heap hh) prOwn started (by kernel_rfl) Tryz.func13
  (ChangeSpec.witness_shaped (enc:=enc) (C:=Tryz.checked) (os:=os) (X:=fun w _=>laidMetH Tryz.prog Rows.semScriptRow.laid w) false (World.doorLaid Tryz.prog 86 os) #[.agg #[.int .i64 0,.slice none 0 0,.int .i64 0,.int .i64 0,.int .i64 0,.slice none 0 0],.slice none 0 0,.int .i64 0,.slice none 0 0] 8 rfl (zld os _) (by as_aux_lemma=>kernel_rfl) (by as_aux_lemma=>kernel_rfl) (by as_aux_lemma=>kernel_rfl) (zod os _)) ?_
 intro W base args ds gs before hval0 hW _ hsz0 hL _
 have hval:∀(j:Nat) t v,Tryz.f13.params[j]?=some t→args[j]?=some v→Value.okWide Tryz.prog W .any base t v:=hval0
 have hsz:(DataW.weightsEach Tryz.prog (Tryz.f13.params.toList ++Rows.semScriptSpec.plain.varTypes Tryz.prog) (ds++gs)).all (· ≤reachBytes)=true:=hsz0
 have hW':=hW
 obtain⟨p,q,hA0,hV,rfl,hfz,hnd⟩:=hW
 have hA:DataW.TrodAll enc Tryz.prog W 0 (fun _=>true) true Tryz.f13.params.toList args.toList ds p:=hA0
 rw[Tryz.params13]at hA hval hsz
 obtain⟨v0,vs0,d0,ds0,p0,q0,hargs,rfl,rfl,h0,r0⟩:=trodAll_cons hA
 obtain⟨v1,vs1,d1,ds1,p1,q1,rfl,rfl,rfl,h1,r1⟩:=trodAll_cons r0
 obtain⟨v2,vs2,d2,ds2,p2,q2,rfl,rfl,rfl,h2,r2⟩:=trodAll_cons r1
 obtain⟨v3,vs3,d3,ds3,p3,q3,rfl,rfl,rfl,h3,r3⟩:=trodAll_cons r2
 obtain⟨rfl,rfl,rfl⟩:=trodAll_nil r3
 obtain rfl:args= #[v0,v1,v2,v3]:=by cases args;simp_all
 obtain⟨rfl,rfl⟩:=trodVars_none hV
 obtain⟨g0,Aa0,Ae0,ca0,ce0,rfl,hg0⟩:=ziz (hval 0 40 v0 rfl rfl) h0
 have lt0:∀x∈p0,x.block < W.heap.size:=fun x hx=>hW'.lt x (by simp[hx])
 obtain⟨l1,As1,cs1,rfl,hs1,hn1,hb1⟩:∃(l:List Int) (A:Option Addr) (c:Nat),v1= .slice A l.length c∧IsSl W W.heap.size l A c∧(A=none→c=0)∧l.length≤140737488351232:=by
  obtain⟨a,l,c,rfl⟩:=okWide_slice Tryz.underlying37 (hval 1 37 v1 rfl rfl)
  obtain⟨fuel,hf⟩:=h1
  exact zc3 hf (zgQ (j:=1) rfl rfl hsz)
 have lt1:∀x∈p1,x.block < W.heap.size:=fun x hx=>hW'.lt x (by simp[hx])
 obtain⟨a2,rfl,rfl,rfl,w2⟩:=open_int Tryz.underlying3 (hval 2 3 v2 rfl rfl) h2
 obtain⟨l3,As3,cs3,rfl,hs3,hn3,hb3⟩:∃(l:List Int) (A:Option Addr) (c:Nat),v3= .slice A l.length c∧IsSl W W.heap.size l A c∧(A=none→c=0)∧l.length≤140737488351232:=by
  obtain⟨a,l,c,rfl⟩:=okWide_slice Tryz.underlying37 (hval 3 37 v3 rfl rfl)
  obtain⟨fuel,hf⟩:=h3
  exact zc3 hf (zgQ (j:=3) rfl rfl hsz)
 have lt3:∀x∈p3,x.block < W.heap.size:=fun x hx=>hW'.lt x (by simp[hx])
 rw[MakeChecks.laidMetH_plain _ _ _ (by kernel_rfl)]at hL
 have he:=zeF hL
 clear hA0 hval0
 refine(ziw g0 Aa0 Ae0 As1 As3 ca0 ce0 cs1 cs3 l1 l3 a2 W he hg0 hs1 hn1 hs3 hn3 (by omega)).mono fun e W' ⟨he,hb⟩=>?_
 subst he
 exact⟨_,rfl,zeu (pa:=p0++(p1++(p3))) (pv:= []) hW' (fun _ _ _=>(trodAll_cons_mk (shut_bool Tryz.underlying4 _) trodAll_mk0))
  (fun sp hsp=>by
   have:=(trodAll_cons_mk (WideElems.Trod_stays zdw (by kernel_rfl) (of_decide_eq_true (by kernel_rfl)) h0 (fun x hx=>hb.same (lt0 x hx)) (fun x hx=>hsp x (by simp[hx]))) (trodAll_cons_mk (WideElems.Trod_stays zdw (by kernel_rfl) (of_decide_eq_true (by kernel_rfl)) h1 (fun x hx=>hb.same (lt1 x hx)) (fun x hx=>hsp x (by simp[hx]))) (trodAll_cons_mk (shut_int Tryz.underlying3 w2) (trodAll_cons_mk (WideElems.Trod_stays zdw (by kernel_rfl) (of_decide_eq_true (by kernel_rfl)) h3 (fun x hx=>hb.same (lt3 x hx)) (fun x hx=>hsp x (by simp[hx]))) trodAll_mk0))))
   simp only[List.append_nil,List.nil_append]at this
   exact this)
  (fun _ _=>rfl) (by simp) hb (ok_one (by kernel_rfl) rfl (okWide_bool_mk Tryz.underlying4 _))⟩

theorem row:Rows.SemScriptSaid:=
 OpenClaim.holds_of_wide 13 Tryz.f13 rfl rfl rfl rfl rfl rfl rfl ⟨rfl,rfl,rfl,rfl,rfl⟩ rfl rfl rfl rfl rfl (by kernel_rfl) Tryz.func13 zdL
  (of_decide_eq_true (by kernel_rfl)) (by unfold Func.isWrapper;first|(rw[if_pos (by decide+kernel)];kernel_rfl)|(rw[if_neg (by decide+kernel)];exact⟨rfl,rfl⟩))
  (fun os started H enc _=>lifted os started H enc)

theorem proved:Rows.SemScriptCardSaid:=
 Claim7.holds_tied_plain_at .later [] [.data,.data,.data,.sentinel,.sentinel,.listed,.data] true (true, "cb3c843aea171ab9ef0ca1c3960cb32d1c7537a8c48d592d65cf9be20e11ccd6") true
  row (fun _ h=>by cases h) (by kernel_rfl) (fun _ h=>by cases h) semScript_row_tie rfl ⟨rfl,rfl⟩ zoe rfl
  (fun f fn hf hfn=>by
   obtain rfl:f=13:=Option.some.inj ((show Tryz.prog.funcNamed "facetroom/facetroomlaw14.SemScript" =some 13 by kernel_rfl).symm.trans hf) |>.symm
   obtain rfl:fn=Tryz.f13:=(Option.some.inj (Tryz.func13.symm.trans hfn)).symm
   exact⟨zmY,fun j t ht=>by
    rw[Tryz.params13]at ht
    match j,ht with
    |0,ht=>exact zlf _ (by simpa using ht)
    |1,ht=>exact zg4 _ (by simpa using ht)
    |2,ht=>exact zle _ (by simpa using ht)
    |3,ht=>exact zg4 _ (by simpa using ht)
    |j+4,ht=>simp at ht⟩)
  (by kernel_rfl)
end Go.Proofs.YtobegfbdedgmpaaGreatDoor.semScript
