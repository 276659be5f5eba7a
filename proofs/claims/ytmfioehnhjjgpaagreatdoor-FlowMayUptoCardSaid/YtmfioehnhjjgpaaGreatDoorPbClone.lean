/-
  slices.Clone at statements and procedures. Printed by wip/gen_pb/gen.py.
-/
import Derived.Test.YtmfioehnhjjgpaaGreatDoorJnInE
set_option linter.unusedVariables false
set_option linter.unusedSimpArgs false
set_option maxHeartbeats 1600000
set_option maxRecDepth 100000
namespace Go.Proofs.YtmfioehnhjjgpaaGreatDoor
open Go.RowKit Go.Shelf

theorem zjP (A:Option Addr) (n c:Nat) (cs:List Value) (w:World) (hn:n≤9223372036854775807) (hb:n*128≤140737488355328) (hl:cs.length=n*7) (h1:One1 cs) (hA:A=none→n=0) (hc:∀ad,A=some ad→∀j u,cs[j]?=some u→w.cell? (ad.add j)=some u):
  Calls Tryz.prog 66 #[.slice A n c] w (ze7 w.heap.size 86 7 n cs w):=by
 obtain⟨i0,hi,hz0,hz1,hz2⟩:=info_parts zgm
 have HI:=hdq (aiq hi (aiq hz0 (aiq hz1 hz2)))
 have HH:=hdq (aiq hb (aiq hl (aiq h1 (aiq hA hc))))
 clear hb hl h1 hA hc hi hz0 hz1 hz2
 cases A with
 |none=>
  have hnil:∀W,(binOp .eql 25 (.slice none n c) (.slice none 0 0)).run Tryz.prog W= .ok (.bool true) W:=fun W=>Lib.run_eql_slice_nil_nil W _ _ Tryz.underlying25
  go_enter Tryz.func66,Tryz.ntmps66
  go_wp2_with fail
  go_ret
  have h0:=HH.out.2.2.2.1 trivial
  subst h0
  have hl:=HH.out.2.1
  have e0:cs= []:=List.length_eq_zero_iff.1 (by omega)
  subst e0
  exact⟨_,rfl,World.ownsRow_nil _ _ _ _,Fr.refl _ _,none,0,rfl⟩
 |some ad=>
  have hnil:∀W,(binOp .eql 25 (.slice (some ad) n c) (.slice none 0 0)).run Tryz.prog W= .ok (.bool false) W:=fun W=>Lib.run_eql_slice_some_nil W _ _ _ Tryz.underlying25
  go_enter Tryz.func66,Tryz.ntmps66
  obtain⟨w1,hw1⟩:=nmq (w.alloc (.cells #[] 86))
  have hf1:Fr NoT w w1:=by rw[hw1];exact(Fr.refl _ _).alloc _
  have hown1:w1.ownsRow w.heap.size 86 7 (.slice (some ⟨w.heap.size,0,none⟩) 0 0) 0 []:=by
   rw[hw1];exact World.ownsRow_lit w #[] 0 (lrq _) (by decide) rfl
  have hnews:∀j u,cs[j]?=some u→w1.cell? (ad.add j)=some u:=fun j u hj=>by
   have h:=HH.out.2.2.2.2 ad rfl j u hj
   rw[←h]
   have hlt:(ad.add j).block < w.heap.size:=zbB h
   exact hf1.cell hlt id
  have HF1:=hdq hf1
  have HOWN:=hdq hown1
  have HNEWS:=hdq hnews
  have HW1:=hdq hw1
  have hz:w.heap.size≤w1.heap.size:=hf1.size
  have hn1:0+n≤maxLen:=by unfold maxLen;omega
  have hn2:(0+n)*128≤140737488355328:=by rw[Nat.zero_add];exact HH.out.1
  clear hf1 hown1 hnews hw1
  go_wp2_with (at_builtin;rw[←HW1.out];refine wpList_append_own _ rfl _ _ 25 rfl w.heap.size 86 i0 (.agg zeroSt) 7 128 Tryz.underlying25 HI.out.1 HI.out.2.1 HI.out.2.2.1 HI.out.2.2.2 rfl (by decide) (.slice (some ⟨w.heap.size,0,none⟩) 0 0) 0 [] rfl HOWN.out ad n c cs rfl HH.out.2.1 HNEWS.out HH.out.2.2.1 hn1 hn2 hz ?_)
  intro v' w' hown hg _
  have HO:=hdq hown
  have HG:=hdq hg
  clear hown hg
  go_wp2_with fail
  go_ret
  refine⟨_,rfl,HO.out,HF1.out.back1 (Fr.grown HG.out fun g e _=>by simp[Value.ownBlock]at e;omega) (lrq _),?_⟩
  rcases HO.out.2 with⟨e1,e2⟩|⟨g,cap,cur,e1,_⟩
  ·exact⟨none,0,by rw[e1,e2];rfl⟩
  ·exact⟨_,cap,e1⟩
theorem zjQ (A:Option Addr) (n c:Nat) (cs:List Value) (w:World) (hn:n≤9223372036854775807) (hb:n*72≤140737488355328) (hl:cs.length=n*4) (h1:One1 cs) (hA:A=none→n=0) (hc:∀ad,A=some ad→∀j u,cs[j]?=some u→w.cell? (ad.add j)=some u):
  Calls Tryz.prog 71 #[.slice A n c] w (ze7 w.heap.size 59 4 n cs w):=by
 obtain⟨i0,hi,hz0,hz1,hz2⟩:=info_parts znZ
 have HI:=hdq (aiq hi (aiq hz0 (aiq hz1 hz2)))
 have HH:=hdq (aiq hb (aiq hl (aiq h1 (aiq hA hc))))
 clear hb hl h1 hA hc hi hz0 hz1 hz2
 cases A with
 |none=>
  have hnil:∀W,(binOp .eql 24 (.slice none n c) (.slice none 0 0)).run Tryz.prog W= .ok (.bool true) W:=fun W=>Lib.run_eql_slice_nil_nil W _ _ Tryz.underlying24
  go_enter Tryz.func71,Tryz.ntmps71
  go_wp2_with fail
  go_ret
  have h0:=HH.out.2.2.2.1 trivial
  subst h0
  have hl:=HH.out.2.1
  have e0:cs= []:=List.length_eq_zero_iff.1 (by omega)
  subst e0
  exact⟨_,rfl,World.ownsRow_nil _ _ _ _,Fr.refl _ _,none,0,rfl⟩
 |some ad=>
  have hnil:∀W,(binOp .eql 24 (.slice (some ad) n c) (.slice none 0 0)).run Tryz.prog W= .ok (.bool false) W:=fun W=>Lib.run_eql_slice_some_nil W _ _ _ Tryz.underlying24
  go_enter Tryz.func71,Tryz.ntmps71
  obtain⟨w1,hw1⟩:=nmq (w.alloc (.cells #[] 59))
  have hf1:Fr NoT w w1:=by rw[hw1];exact(Fr.refl _ _).alloc _
  have hown1:w1.ownsRow w.heap.size 59 4 (.slice (some ⟨w.heap.size,0,none⟩) 0 0) 0 []:=by
   rw[hw1];exact World.ownsRow_lit w #[] 0 (lrq _) (by decide) rfl
  have hnews:∀j u,cs[j]?=some u→w1.cell? (ad.add j)=some u:=fun j u hj=>by
   have h:=HH.out.2.2.2.2 ad rfl j u hj
   rw[←h]
   have hlt:(ad.add j).block < w.heap.size:=zbB h
   exact hf1.cell hlt id
  have HF1:=hdq hf1
  have HOWN:=hdq hown1
  have HNEWS:=hdq hnews
  have HW1:=hdq hw1
  have hz:w.heap.size≤w1.heap.size:=hf1.size
  have hn1:0+n≤maxLen:=by unfold maxLen;omega
  have hn2:(0+n)*72≤140737488355328:=by rw[Nat.zero_add];exact HH.out.1
  clear hf1 hown1 hnews hw1
  go_wp2_with (at_builtin;rw[←HW1.out];refine wpList_append_own _ rfl _ _ 24 rfl w.heap.size 59 i0 (.agg #[.string ⟨#[]⟩,.slice none 0 0,.slice none 0 0,.int .i64 0]) 4 72 Tryz.underlying24 HI.out.1 HI.out.2.1 HI.out.2.2.1 HI.out.2.2.2 rfl (by decide) (.slice (some ⟨w.heap.size,0,none⟩) 0 0) 0 [] rfl HOWN.out ad n c cs rfl HH.out.2.1 HNEWS.out HH.out.2.2.1 hn1 hn2 hz ?_)
  intro v' w' hown hg _
  have HO:=hdq hown
  have HG:=hdq hg
  clear hown hg
  go_wp2_with fail
  go_ret
  refine⟨_,rfl,HO.out,HF1.out.back1 (Fr.grown HG.out fun g e _=>by simp[Value.ownBlock]at e;omega) (lrq _),?_⟩
  rcases HO.out.2 with⟨e1,e2⟩|⟨g,cap,cur,e1,_⟩
  ·exact⟨none,0,by rw[e1,e2];rfl⟩
  ·exact⟨_,cap,e1⟩
end Go.Proofs.YtmfioehnhjjgpaaGreatDoor
