/-
  slices.Clone of expressions, conditions, scalars, arrays.
-/
import Derived.Test.YtmopichdofgndaaGreatDoorJnCkA
import Derived.Test.YtmopichdofgndaaGreatDoorJnRw
import Derived.Lib.BufferMore
set_option linter.unusedVariables false
set_option linter.unusedSimpArgs false
set_option maxHeartbeats 1600000
set_option maxRecDepth 100000
namespace Go.Proofs.YtmopichdofgndaaGreatDoor
open Go.RowKit Go.Shelf

def CloneP (L:Nat) (T:TypeId) (size n:Nat) (cs:List Value) (w:World) (e:Ending) (w':World):Prop:=∃v,e= .returned v∧w'.ownsRow L T size v n cs∧Fr NoT w w'∧∃A c,v= .slice A n c
theorem cloneX_any (A:Option Addr) (n c:Nat) (cs:List Value) (w:World) (hn:n≤9223372036854775807) (hb:n*64≤140737488355328) (hl:cs.length=n*5) (h1:One1 cs) (hA:A=none→n=0) (hc:∀ad,A=some ad→∀j u,cs[j]?=some u→w.cell? (ad.add j)=some u):
  Calls Tryz.prog 150 #[.slice A n c] w (CloneP w.heap.size 41 5 n cs w):=by
 obtain⟨i0,hi,hz0,hz1,hz2⟩:=info_parts infoEx
 have HI:=hdq (aiq hi (aiq hz0 (aiq hz1 hz2)))
 have HH:=hdq (aiq hb (aiq hl (aiq h1 (aiq hA hc))))
 clear hb hl h1 hA hc hi hz0 hz1 hz2
 cases A with
 |none=>
  have hnil:∀W,(binOp .eql 36 (.slice none n c) (.slice none 0 0)).run Tryz.prog W= .ok (.bool true) W:=fun W=>Lib.run_eql_slice_nil_nil W _ _ Tryz.underlying36
  go_enter Tryz.func150,Tryz.ntmps150
  go_wp2_with fail
  go_ret
  have h0:=HH.out.2.2.2.1 trivial
  subst h0
  have hl:=HH.out.2.1
  have e0:cs= []:=List.length_eq_zero_iff.1 (by omega)
  subst e0
  exact⟨_,rfl,World.ownsRow_nil _ _ _ _,Fr.refl _ _,none,0,rfl⟩
 |some ad=>
  have hnil:∀W,(binOp .eql 36 (.slice (some ad) n c) (.slice none 0 0)).run Tryz.prog W= .ok (.bool false) W:=fun W=>Lib.run_eql_slice_some_nil W _ _ _ Tryz.underlying36
  go_enter Tryz.func150,Tryz.ntmps150
  obtain⟨w1,hw1⟩:=nmq (w.alloc (.cells #[] 41))
  have hf1:Fr NoT w w1:=by rw[hw1];exact(Fr.refl _ _).alloc _
  have hown1:w1.ownsRow w.heap.size 41 5 (.slice (some ⟨w.heap.size,0,none⟩) 0 0) 0 []:=by
   rw[hw1];exact World.ownsRow_lit w #[] 0 (lrq _) (by decide) rfl
  have hnews:∀j u,cs[j]?=some u→w1.cell? (ad.add j)=some u:=fun j u hj=>by
   have h:=HH.out.2.2.2.2 ad rfl j u hj
   rw[←h]
   have hlt:(ad.add j).block < w.heap.size:=cell_low h
   exact hf1.cell hlt id
  have HF1:=hdq hf1
  have HOWN:=hdq hown1
  have HNEWS:=hdq hnews
  have HW1:=hdq hw1
  have hz:w.heap.size≤w1.heap.size:=hf1.size
  have hn1:0+n≤maxLen:=by unfold maxLen;omega
  have hn2:(0+n)*64≤140737488355328:=by rw[Nat.zero_add];exact HH.out.1
  clear hf1 hown1 hnews hw1
  go_wp2_with (at_builtin;rw[←HW1.out];refine wpList_append_own _ rfl _ _ 36 rfl w.heap.size 41 i0 (.agg #[.int .u8 0,.string ⟨#[]⟩,.int .i64 0,.slice none 0 0,.int .i64 0]) 5 64 Tryz.underlying36 HI.out.1 HI.out.2.1 HI.out.2.2.1 HI.out.2.2.2 rfl (by decide) (.slice (some ⟨w.heap.size,0,none⟩) 0 0) 0 [] rfl HOWN.out ad n c cs rfl HH.out.2.1 HNEWS.out HH.out.2.2.1 hn1 hn2 hz ?_)
  intro v' w' hown hg _
  have HO:=hdq hown
  have HG:=hdq hg
  clear hown hg
  go_wp2_with fail
  go_ret
  refine⟨_,rfl,HO.out,HF1.out.back1 (Fr.grown HG.out fun g e _=>by simp[Value.ownBlock]at e;omega) (lrq _),?_⟩
  rcases HO.out.2 with⟨e1,e2⟩|⟨g,cap,cur,e1,_⟩
  ·exact⟨none,0,by rw[e1,e2];rfl⟩
  ·exact⟨_,cap,e1⟩
theorem cloneC_any (A:Option Addr) (n c:Nat) (cs:List Value) (w:World) (hn:n≤9223372036854775807) (hb:n*64≤140737488355328) (hl:cs.length=n*4) (h1:One1 cs) (hA:A=none→n=0) (hc:∀ad,A=some ad→∀j u,cs[j]?=some u→w.cell? (ad.add j)=some u):
  Calls Tryz.prog 151 #[.slice A n c] w (CloneP w.heap.size 160 4 n cs w):=by
 obtain⟨i0,hi,hz0,hz1,hz2⟩:=info_parts infoCd
 have HI:=hdq (aiq hi (aiq hz0 (aiq hz1 hz2)))
 have HH:=hdq (aiq hb (aiq hl (aiq h1 (aiq hA hc))))
 clear hb hl h1 hA hc hi hz0 hz1 hz2
 cases A with
 |none=>
  have hnil:∀W,(binOp .eql 37 (.slice none n c) (.slice none 0 0)).run Tryz.prog W= .ok (.bool true) W:=fun W=>Lib.run_eql_slice_nil_nil W _ _ Tryz.underlying37
  go_enter Tryz.func151,Tryz.ntmps151
  go_wp2_with fail
  go_ret
  have h0:=HH.out.2.2.2.1 trivial
  subst h0
  have hl:=HH.out.2.1
  have e0:cs= []:=List.length_eq_zero_iff.1 (by omega)
  subst e0
  exact⟨_,rfl,World.ownsRow_nil _ _ _ _,Fr.refl _ _,none,0,rfl⟩
 |some ad=>
  have hnil:∀W,(binOp .eql 37 (.slice (some ad) n c) (.slice none 0 0)).run Tryz.prog W= .ok (.bool false) W:=fun W=>Lib.run_eql_slice_some_nil W _ _ _ Tryz.underlying37
  go_enter Tryz.func151,Tryz.ntmps151
  obtain⟨w1,hw1⟩:=nmq (w.alloc (.cells #[] 160))
  have hf1:Fr NoT w w1:=by rw[hw1];exact(Fr.refl _ _).alloc _
  have hown1:w1.ownsRow w.heap.size 160 4 (.slice (some ⟨w.heap.size,0,none⟩) 0 0) 0 []:=by
   rw[hw1];exact World.ownsRow_lit w #[] 0 (lrq _) (by decide) rfl
  have hnews:∀j u,cs[j]?=some u→w1.cell? (ad.add j)=some u:=fun j u hj=>by
   have h:=HH.out.2.2.2.2 ad rfl j u hj
   rw[←h]
   have hlt:(ad.add j).block < w.heap.size:=cell_low h
   exact hf1.cell hlt id
  have HF1:=hdq hf1
  have HOWN:=hdq hown1
  have HNEWS:=hdq hnews
  have HW1:=hdq hw1
  have hz:w.heap.size≤w1.heap.size:=hf1.size
  have hn1:0+n≤maxLen:=by unfold maxLen;omega
  have hn2:(0+n)*64≤140737488355328:=by rw[Nat.zero_add];exact HH.out.1
  clear hf1 hown1 hnews hw1
  go_wp2_with (at_builtin;rw[←HW1.out];refine wpList_append_own _ rfl _ _ 37 rfl w.heap.size 160 i0 (.agg #[.int .u8 0,.slice none 0 0,.slice none 0 0,.int .i64 0]) 4 64 Tryz.underlying37 HI.out.1 HI.out.2.1 HI.out.2.2.1 HI.out.2.2.2 rfl (by decide) (.slice (some ⟨w.heap.size,0,none⟩) 0 0) 0 [] rfl HOWN.out ad n c cs rfl HH.out.2.1 HNEWS.out HH.out.2.2.1 hn1 hn2 hz ?_)
  intro v' w' hown hg _
  have HO:=hdq hown
  have HG:=hdq hg
  clear hown hg
  go_wp2_with fail
  go_ret
  refine⟨_,rfl,HO.out,HF1.out.back1 (Fr.grown HG.out fun g e _=>by simp[Value.ownBlock]at e;omega) (lrq _),?_⟩
  rcases HO.out.2 with⟨e1,e2⟩|⟨g,cap,cur,e1,_⟩
  ·exact⟨none,0,by rw[e1,e2];rfl⟩
  ·exact⟨_,cap,e1⟩
theorem cloneV_any (A:Option Addr) (n c:Nat) (cs:List Value) (w:World) (hn:n≤9223372036854775807) (hb:n*24≤140737488355328) (hl:cs.length=n*2) (h1:One1 cs) (hA:A=none→n=0) (hc:∀ad,A=some ad→∀j u,cs[j]?=some u→w.cell? (ad.add j)=some u):
  Calls Tryz.prog 27 #[.slice A n c] w (CloneP w.heap.size 43 2 n cs w):=by
 obtain⟨i0,hi,hz0,hz1,hz2⟩:=info_parts infoVa
 have HI:=hdq (aiq hi (aiq hz0 (aiq hz1 hz2)))
 have HH:=hdq (aiq hb (aiq hl (aiq h1 (aiq hA hc))))
 clear hb hl h1 hA hc hi hz0 hz1 hz2
 cases A with
 |none=>
  have hnil:∀W,(binOp .eql 22 (.slice none n c) (.slice none 0 0)).run Tryz.prog W= .ok (.bool true) W:=fun W=>Lib.run_eql_slice_nil_nil W _ _ Tryz.underlying22
  go_enter Tryz.func27,Tryz.ntmps27
  go_wp2_with fail
  go_ret
  have h0:=HH.out.2.2.2.1 trivial
  subst h0
  have hl:=HH.out.2.1
  have e0:cs= []:=List.length_eq_zero_iff.1 (by omega)
  subst e0
  exact⟨_,rfl,World.ownsRow_nil _ _ _ _,Fr.refl _ _,none,0,rfl⟩
 |some ad=>
  have hnil:∀W,(binOp .eql 22 (.slice (some ad) n c) (.slice none 0 0)).run Tryz.prog W= .ok (.bool false) W:=fun W=>Lib.run_eql_slice_some_nil W _ _ _ Tryz.underlying22
  go_enter Tryz.func27,Tryz.ntmps27
  obtain⟨w1,hw1⟩:=nmq (w.alloc (.cells #[] 43))
  have hf1:Fr NoT w w1:=by rw[hw1];exact(Fr.refl _ _).alloc _
  have hown1:w1.ownsRow w.heap.size 43 2 (.slice (some ⟨w.heap.size,0,none⟩) 0 0) 0 []:=by
   rw[hw1];exact World.ownsRow_lit w #[] 0 (lrq _) (by decide) rfl
  have hnews:∀j u,cs[j]?=some u→w1.cell? (ad.add j)=some u:=fun j u hj=>by
   have h:=HH.out.2.2.2.2 ad rfl j u hj
   rw[←h]
   have hlt:(ad.add j).block < w.heap.size:=cell_low h
   exact hf1.cell hlt id
  have HF1:=hdq hf1
  have HOWN:=hdq hown1
  have HNEWS:=hdq hnews
  have HW1:=hdq hw1
  have hz:w.heap.size≤w1.heap.size:=hf1.size
  have hn1:0+n≤maxLen:=by unfold maxLen;omega
  have hn2:(0+n)*24≤140737488355328:=by rw[Nat.zero_add];exact HH.out.1
  clear hf1 hown1 hnews hw1
  go_wp2_with (at_builtin;rw[←HW1.out];refine wpList_append_own _ rfl _ _ 22 rfl w.heap.size 43 i0 (.agg #[.string ⟨#[]⟩,.int .i64 0]) 2 24 Tryz.underlying22 HI.out.1 HI.out.2.1 HI.out.2.2.1 HI.out.2.2.2 rfl (by decide) (.slice (some ⟨w.heap.size,0,none⟩) 0 0) 0 [] rfl HOWN.out ad n c cs rfl HH.out.2.1 HNEWS.out HH.out.2.2.1 hn1 hn2 hz ?_)
  intro v' w' hown hg _
  have HO:=hdq hown
  have HG:=hdq hg
  clear hown hg
  go_wp2_with fail
  go_ret
  refine⟨_,rfl,HO.out,HF1.out.back1 (Fr.grown HG.out fun g e _=>by simp[Value.ownBlock]at e;omega) (lrq _),?_⟩
  rcases HO.out.2 with⟨e1,e2⟩|⟨g,cap,cur,e1,_⟩
  ·exact⟨none,0,by rw[e1,e2];rfl⟩
  ·exact⟨_,cap,e1⟩
theorem cloneA_any (A:Option Addr) (n c:Nat) (cs:List Value) (w:World) (hn:n≤9223372036854775807) (hb:n*32≤140737488355328) (hl:cs.length=n*3) (h1:One1 cs) (hA:A=none→n=0) (hc:∀ad,A=some ad→∀j u,cs[j]?=some u→w.cell? (ad.add j)=some u):
  Calls Tryz.prog 30 #[.slice A n c] w (CloneP w.heap.size 66 3 n cs w):=by
 obtain⟨i0,hi,hz0,hz1,hz2⟩:=info_parts infoAr
 have HI:=hdq (aiq hi (aiq hz0 (aiq hz1 hz2)))
 have HH:=hdq (aiq hb (aiq hl (aiq h1 (aiq hA hc))))
 clear hb hl h1 hA hc hi hz0 hz1 hz2
 cases A with
 |none=>
  have hnil:∀W,(binOp .eql 23 (.slice none n c) (.slice none 0 0)).run Tryz.prog W= .ok (.bool true) W:=fun W=>Lib.run_eql_slice_nil_nil W _ _ Tryz.underlying23
  go_enter Tryz.func30,Tryz.ntmps30
  go_wp2_with fail
  go_ret
  have h0:=HH.out.2.2.2.1 trivial
  subst h0
  have hl:=HH.out.2.1
  have e0:cs= []:=List.length_eq_zero_iff.1 (by omega)
  subst e0
  exact⟨_,rfl,World.ownsRow_nil _ _ _ _,Fr.refl _ _,none,0,rfl⟩
 |some ad=>
  have hnil:∀W,(binOp .eql 23 (.slice (some ad) n c) (.slice none 0 0)).run Tryz.prog W= .ok (.bool false) W:=fun W=>Lib.run_eql_slice_some_nil W _ _ _ Tryz.underlying23
  go_enter Tryz.func30,Tryz.ntmps30
  obtain⟨w1,hw1⟩:=nmq (w.alloc (.cells #[] 66))
  have hf1:Fr NoT w w1:=by rw[hw1];exact(Fr.refl _ _).alloc _
  have hown1:w1.ownsRow w.heap.size 66 3 (.slice (some ⟨w.heap.size,0,none⟩) 0 0) 0 []:=by
   rw[hw1];exact World.ownsRow_lit w #[] 0 (lrq _) (by decide) rfl
  have hnews:∀j u,cs[j]?=some u→w1.cell? (ad.add j)=some u:=fun j u hj=>by
   have h:=HH.out.2.2.2.2 ad rfl j u hj
   rw[←h]
   have hlt:(ad.add j).block < w.heap.size:=cell_low h
   exact hf1.cell hlt id
  have HF1:=hdq hf1
  have HOWN:=hdq hown1
  have HNEWS:=hdq hnews
  have HW1:=hdq hw1
  have hz:w.heap.size≤w1.heap.size:=hf1.size
  have hn1:0+n≤maxLen:=by unfold maxLen;omega
  have hn2:(0+n)*32≤140737488355328:=by rw[Nat.zero_add];exact HH.out.1
  clear hf1 hown1 hnews hw1
  go_wp2_with (at_builtin;rw[←HW1.out];refine wpList_append_own _ rfl _ _ 23 rfl w.heap.size 66 i0 (.agg #[.string ⟨#[]⟩,.int .i64 0,.int .i64 0]) 3 32 Tryz.underlying23 HI.out.1 HI.out.2.1 HI.out.2.2.1 HI.out.2.2.2 rfl (by decide) (.slice (some ⟨w.heap.size,0,none⟩) 0 0) 0 [] rfl HOWN.out ad n c cs rfl HH.out.2.1 HNEWS.out HH.out.2.2.1 hn1 hn2 hz ?_)
  intro v' w' hown hg _
  have HO:=hdq hown
  have HG:=hdq hg
  clear hown hg
  go_wp2_with fail
  go_ret
  refine⟨_,rfl,HO.out,HF1.out.back1 (Fr.grown HG.out fun g e _=>by simp[Value.ownBlock]at e;omega) (lrq _),?_⟩
  rcases HO.out.2 with⟨e1,e2⟩|⟨g,cap,cur,e1,_⟩
  ·exact⟨none,0,by rw[e1,e2];rfl⟩
  ·exact⟨_,cap,e1⟩
end Go.Proofs.YtmopichdofgndaaGreatDoor
