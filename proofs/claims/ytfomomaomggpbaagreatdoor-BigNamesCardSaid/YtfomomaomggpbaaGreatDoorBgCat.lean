/-
  big.Run: what it does when all is done, and with how a run has ended. Printed by wip/gen_in/reg.py.
-/
import Derived.Test.YtfomomaomggpbaaGreatDoorJgBgMem
import Derived.Defers
import Derived.Recover
set_option linter.unusedVariables false
set_option linter.unusedSimpArgs false
set_option maxHeartbeats 1600000
set_option maxRecDepth 100000
namespace Go.Proofs.YtfomomaomggpbaaGreatDoor
open Go.RowKit Go.Shelf

def EdS (b:Nat) (k wr at_:Int) (W:World):Prop:=W.cell? ⟨b,0,none⟩=some (.int .u8 k)∧W.cell? ⟨b,1,none⟩=some (.int .u8 wr)∧W.cell? ⟨b,2,none⟩=some (.int .i64 at_)
structure bgRcS (r R t6:Nat) (e:Array Value) (sc k0 w0 a0 nd ed lf vs asv:Value) (w:World):Prop where
 br:Bk w r 66 #[.pointer (some ⟨R,0,none⟩)]
 bR:Bk w R 68 #[sc,k0,w0,a0,nd,ed,lf,vs,asv]
 b6:Bk w t6 34 e
 ne:r≠t6∧R≠t6
def bgEndC (k wr at_:Int) (nd ed lf vs asv:Value):Array Value:= #[.int .u8 k,.int .u8 wr,.int .i64 at_,nd,ed,lf,vs,asv]
def CatP (t6:Nat) (k wr at_:Int) (nd ed lf vs asv:Value) (w w':World):Prop:=Bk w' t6 34 (bgEndC k wr at_ nd ed lf vs asv)∧Fr (fun b=>b=t6) w w'
theorem run1_idle (r R t6:Nat) (e0 e1 e2 e3 e4 e5 e6 e7 sc k0 w0 a0 nd ed lf vs asv:Value) (w:World) (h:bgRcS r R t6 #[e0,e1,e2,e3,e4,e5,e6,e7] sc k0 w0 a0 nd ed lf vs asv w) (hno:nd= .int .i64 0∧ed= .int .i64 0∧(∃n,lf= .int .i64 n)∧(∃A l c,vs= .slice A l c)∧(∃A l c,asv= .slice A l c)∧(∃x,k0= .int .u8 x)∧(∃x,w0= .int .u8 x)∧∃x,a0= .int .i64 x):
  CallsD Tryz.prog 24 #[.pointer (some ⟨r,0,none⟩),.pointer (some ⟨t6,0,none⟩)] .returning w fun e u' w'=>e= .returned (.tuple #[])∧u'= .returning ∧CatP t6 1 0 0 nd ed lf vs asv w w':=by
 obtain⟨rfl,rfl,⟨n,rfl⟩,⟨A1,l1,c1,rfl⟩,⟨A2,l2,c2,rfl⟩,⟨k0,rfl⟩,⟨w0,rfl⟩,⟨a0,rfl⟩⟩:=hno
 refine callsD_of_wpS Tryz.func24 rfl fun c₀ cs hu=>?_
 simp only[Tryz.ntmps24,List.size_toArray,List.length_cons,List.length_nil,Nat.reduceAdd,Nat.reduceSub,Array.replicate_succ,Array.replicate_zero,List.push_toArray,List.append_toArray,List.nil_append,List.cons_append]
 apply wpS_seq
 apply wpS_region
 generalize hK:Exit.thenS _ _=K
 have HK:=hdq hK
 clear hK
 simp[wpOpsS,go_sem,recoverD,hu]
 have HK2:=HK.out
 clear HK
 subst HK2
 simp only[Exit.thenS]
 refine wpS_of_wp ?_
 generalize hQ:(fun e a' w'=>bodyPostS _ _ _ _ _ e a' _ w')=Q
 have HQ:=hdq hQ
 clear hQ
 have HU:=hdq hu
 clear hu
 have hta:∀W:World,(Instr.typeAssert .nilIface 20 85 true).run Tryz.prog W= .ok (.tuple #[.agg #[.int .u8 0,.int .u8 0,.int .i64 0],.bool false]) W:=fun _=>by kernel_rfl
 obtain⟨br,bR,b6,ne1,ne2⟩:=h
 have r0:=br.cell 0
 have rl:=br.lt
 have R1:=bR.cell 1
 have R2:=bR.cell 2
 have R3:=bR.cell 3
 have R4:=bR.cell 4
 have R5:=bR.cell 5
 have R6:=bR.cell 6
 have R7:=bR.cell 7
 have R8:=bR.cell 8
 have Rl:=bR.lt
 have g0:=b6.cell 0
 have g1:=b6.cell 1
 have g2:=b6.cell 2
 have g3:=b6.cell 3
 have g4:=b6.cell 4
 have g5:=b6.cell 5
 have g6:=b6.cell 6
 have g7:=b6.cell 7
 have z0:=b6.frozen 0
 have z1:=b6.frozen 1
 have z2:=b6.frozen 2
 have z3:=b6.frozen 3
 have z4:=b6.frozen 4
 have z5:=b6.frozen 5
 have z6:=b6.frozen 6
 have z7:=b6.frozen 7
 have zl:=b6.lt
 simp only[List.getElem?_toArray,List.getElem?_cons_succ,List.getElem?_cons_zero]at r0 R1 R2 R3 R4 R5 R6 R7 R8 g0 g1 g2 g3 g4 g5 g6 g7
 have H6:=hdq b6
 clear br bR b6
 go_wp2_with fail
 obtain⟨w5,hw5⟩:=nmq ((((((((((w.setCell ⟨t6,0,none⟩ (.int .u8 k0)).setCell ⟨t6,1,none⟩ (.int .u8 w0)).setCell ⟨t6,2,none⟩ (.int .i64 a0)).setCell ⟨t6,3,none⟩ (.int .i64 0)).setCell ⟨t6,4,none⟩ (.int .i64 0)).setCell ⟨t6,5,none⟩ (.int .i64 n)).setCell ⟨t6,6,none⟩ (.slice A1 l1 c1)).setCell ⟨t6,7,none⟩ (.slice A2 l2 c2)).alloc (.cells #[.int .u8 1,.int .u8 0,.int .i64 0] 85)))
 rw[←hw5]
 have hk5:Bk w5 w.heap.size 85 #[.int .u8 1,.int .u8 0,.int .i64 0]:=by rw[hw5];exact Bk.new_at _ _ _ (by simp)
 have h65:Bk w5 t6 34 #[.int .u8 k0,.int .u8 w0,.int .i64 a0,.int .i64 0,.int .i64 0,.int .i64 n,.slice A1 l1 c1,.slice A2 l2 c2]:=by
  rw[hw5]
  have:=((((((((H6.out.set_ 0 (.int .u8 k0)).set_ 1 (.int .u8 w0)).set_ 2 (.int .i64 a0)).set_ 3 (.int .i64 0)).set_ 4 (.int .i64 0)).set_ 5 (.int .i64 n)).set_ 6 (.slice A1 l1 c1)).set_ 7 (.slice A2 l2 c2)).alloc (.cells #[.int .u8 1,.int .u8 0,.int .i64 0] 85)
  simpa using this
 have hf5:Fr (fun b=>b=t6) w w5:=by
  rw[hw5]
  exact Fr.alloc ((((((((Fr.own (Fr.refl _ _) 0 _).own 1 _).own 2 _).own 3 _).own 4 _).own 5 _).own 6 _).own 7 _) _
 have hbt:w.heap.size≠t6:=by omega
 have hbt':=Ne.symm hbt
 clear hw5 r0 rl R1 R2 R3 R4 R5 R6 R7 R8 Rl g0 g1 g2 g3 g4 g5 g6 g7 z0 z1 z2 z3 z4 z5 z6 z7 H6 hta
 have HS5:=hdq (show ∀w',Fr (fun b=>b=t6) w5 w'→EdS w.heap.size 1 0 0 w' from fun w' hf=>⟨(hk5.fr hf hbt).cell 0,(hk5.fr hf hbt).cell 1,(hk5.fr hf hbt).cell 2⟩)
 have m0:=h65.cell 0
 have m1:=h65.cell 1
 have m2:=h65.cell 2
 have y0:=h65.frozen 0
 have y1:=h65.frozen 1
 have y2:=h65.frozen 2
 have yl:=h65.lt
 have H65:=hdq h65
 have HF5:=hdq hf5
 simp only[List.getElem?_toArray,List.getElem?_cons_succ,List.getElem?_cons_zero]at m0 m1 m2
 clear hk5 h65 hf5
 have HQ2:=HQ.out
 clear HQ
 subst HQ2
 refine wp_region_E (EdS w.heap.size 1 0 0) (fun _=>true) (by kernel_rfl) (HS5.out _ (Fr.refl _ _).drew) (fun hHeld=>?_)
 refine wpE_pu 0 ?_
 try simp only[Act.put,List.setIfInBounds_toArray,List.set_cons_zero,List.set_cons_succ]
 refine wpE_pu 2 ?_
 try simp only[Act.put,List.setIfInBounds_toArray,List.set_cons_zero,List.set_cons_succ]
 refine wpE_pu 4 ?_
 try simp only[Act.put,List.setIfInBounds_toArray,List.set_cons_zero,List.set_cons_succ]
 refine wpE_tv 1 hHeld ?_
 try simp only[Act.put,List.setIfInBounds_toArray,List.set_cons_zero,List.set_cons_succ]
 refine wpE_tv 3 hHeld ?_
 try simp only[Act.put,List.setIfInBounds_toArray,List.set_cons_zero,List.set_cons_succ]
 refine wpE_tv 5 hHeld ?_
 try simp only[Act.put,List.setIfInBounds_toArray,List.set_cons_zero,List.set_cons_succ]
 refine wpE_pu 6 ?_
 try simp only[Act.put,List.setIfInBounds_toArray,List.set_cons_zero,List.set_cons_succ]
 refine wpE_next 7 rfl (by kernel_rfl) (fun KK hK=>?_)
 go_simp
 refine hK _ _ (fun _ _=>HS5.out _ (((Fr.refl _ _).drew).own 0 _)) ?_
 clear hK KK
 try simp only[Act.put,List.setIfInBounds_toArray,List.set_cons_zero,List.set_cons_succ]
 refine wpE_pu 8 ?_
 try simp only[Act.put,List.setIfInBounds_toArray,List.set_cons_zero,List.set_cons_succ]
 refine wpE_next 9 rfl (by kernel_rfl) (fun KK hK=>?_)
 go_simp
 refine hK _ _ (fun _ _=>HS5.out _ ((((Fr.refl _ _).drew).own 0 _).own 1 _)) ?_
 clear hK KK
 try simp only[Act.put,List.setIfInBounds_toArray,List.set_cons_zero,List.set_cons_succ]
 refine wpE_pu 10 ?_
 try simp only[Act.put,List.setIfInBounds_toArray,List.set_cons_zero,List.set_cons_succ]
 refine wpE_next 11 rfl (by kernel_rfl) (fun KK hK=>?_)
 go_simp
 refine hK _ _ (fun _ _=>HS5.out _ (((((Fr.refl _ _).drew).own 0 _).own 1 _).own 2 _)) ?_
 clear hK KK
 try simp only[Act.put,List.setIfInBounds_toArray,List.set_cons_zero,List.set_cons_succ]
 refine wpE_done (by kernel_rfl) ?_
 refine⟨rfl,_,rfl,_,by simp[results,Tryz.results24],rfl,HU.out,?_,(HF5.out.trans (((((Fr.refl _ _).drew).own 0 _).own 1 _).own 2 _))⟩
 have h9:=((H65.out.set_ 0 (.int .u8 1)).set_ 1 (.int .u8 0)).set_ 2 (.int .i64 0)
 simp at h9
 unfold bgEndC
 exact h9
theorem run1_catch (k1 wr1 a1:Int) (older:List PanicEntry) (r R t6:Nat) (e0 e1 e2 e3 e4 e5 e6 e7 sc k0 w0 a0 nd ed lf vs asv:Value) (w:World) (h:bgRcS r R t6 #[e0,e1,e2,e3,e4,e5,e6,e7] sc k0 w0 a0 nd ed lf vs asv w) (hno:nd= .int .i64 0∧ed= .int .i64 0∧(∃n,lf= .int .i64 n)∧(∃A l c,vs= .slice A l c)∧(∃A l c,asv= .slice A l c)∧(∃x,k0= .int .u8 x)∧(∃x,w0= .int .u8 x)∧∃x,a0= .int .i64 x):
  CallsD Tryz.prog 24 #[.pointer (some ⟨r,0,none⟩),.pointer (some ⟨t6,0,none⟩)] (.panicking ({v:= .iface 85 (.agg #[.int .u8 k1,.int .u8 wr1,.int .i64 a1]),recovered:=false}::older)) w fun e u' w'=>e= .returned (.tuple #[])∧u'= .panicking ({v:= .iface 85 (.agg #[.int .u8 k1,.int .u8 wr1,.int .i64 a1]),recovered:=true}::older)∧CatP t6 k1 wr1 a1 nd ed lf vs asv w w':=by
 obtain⟨rfl,rfl,⟨n,rfl⟩,⟨A1,l1,c1,rfl⟩,⟨A2,l2,c2,rfl⟩,⟨k0,rfl⟩,⟨w0,rfl⟩,⟨a0,rfl⟩⟩:=hno
 refine callsD_of_wpS Tryz.func24 rfl fun c₀ cs hu=>?_
 simp only[Tryz.ntmps24,List.size_toArray,List.length_cons,List.length_nil,Nat.reduceAdd,Nat.reduceSub,Array.replicate_succ,Array.replicate_zero,List.push_toArray,List.append_toArray,List.nil_append,List.cons_append]
 apply wpS_seq
 apply wpS_region
 generalize hK:Exit.thenS _ _=K
 have HK:=hdq hK
 clear hK
 simp[wpOpsS,go_sem,recoverD,hu]
 have HK2:=HK.out
 clear HK
 subst HK2
 simp only[Exit.thenS]
 refine wpS_of_wp ?_
 generalize hQ:(fun e a' w'=>bodyPostS _ _ _ _ _ e a' _ w')=Q
 have HQ:=hdq hQ
 clear hQ
 have HU:=hdq hu
 clear hu
 have hta:∀W:World,(Instr.typeAssert (.iface 85 (.agg #[.int .u8 k1,.int .u8 wr1,.int .i64 a1])) 20 85 true).run Tryz.prog W= .ok (.tuple #[.agg #[.int .u8 k1,.int .u8 wr1,.int .i64 a1],.bool true]) W:=fun _=>by kernel_rfl
 obtain⟨br,bR,b6,ne1,ne2⟩:=h
 have r0:=br.cell 0
 have rl:=br.lt
 have R1:=bR.cell 1
 have R2:=bR.cell 2
 have R3:=bR.cell 3
 have R4:=bR.cell 4
 have R5:=bR.cell 5
 have R6:=bR.cell 6
 have R7:=bR.cell 7
 have R8:=bR.cell 8
 have Rl:=bR.lt
 have g0:=b6.cell 0
 have g1:=b6.cell 1
 have g2:=b6.cell 2
 have g3:=b6.cell 3
 have g4:=b6.cell 4
 have g5:=b6.cell 5
 have g6:=b6.cell 6
 have g7:=b6.cell 7
 have z0:=b6.frozen 0
 have z1:=b6.frozen 1
 have z2:=b6.frozen 2
 have z3:=b6.frozen 3
 have z4:=b6.frozen 4
 have z5:=b6.frozen 5
 have z6:=b6.frozen 6
 have z7:=b6.frozen 7
 have zl:=b6.lt
 simp only[List.getElem?_toArray,List.getElem?_cons_succ,List.getElem?_cons_zero]at r0 R1 R2 R3 R4 R5 R6 R7 R8 g0 g1 g2 g3 g4 g5 g6 g7
 have H6:=hdq b6
 clear br bR b6
 go_wp2_with fail
 obtain⟨w5,hw5⟩:=nmq ((((((((((w.setCell ⟨t6,0,none⟩ (.int .u8 k0)).setCell ⟨t6,1,none⟩ (.int .u8 w0)).setCell ⟨t6,2,none⟩ (.int .i64 a0)).setCell ⟨t6,3,none⟩ (.int .i64 0)).setCell ⟨t6,4,none⟩ (.int .i64 0)).setCell ⟨t6,5,none⟩ (.int .i64 n)).setCell ⟨t6,6,none⟩ (.slice A1 l1 c1)).setCell ⟨t6,7,none⟩ (.slice A2 l2 c2)).alloc (.cells #[.int .u8 k1,.int .u8 wr1,.int .i64 a1] 85)))
 rw[←hw5]
 have hk5:Bk w5 w.heap.size 85 #[.int .u8 k1,.int .u8 wr1,.int .i64 a1]:=by rw[hw5];exact Bk.new_at _ _ _ (by simp)
 have h65:Bk w5 t6 34 #[.int .u8 k0,.int .u8 w0,.int .i64 a0,.int .i64 0,.int .i64 0,.int .i64 n,.slice A1 l1 c1,.slice A2 l2 c2]:=by
  rw[hw5]
  have:=((((((((H6.out.set_ 0 (.int .u8 k0)).set_ 1 (.int .u8 w0)).set_ 2 (.int .i64 a0)).set_ 3 (.int .i64 0)).set_ 4 (.int .i64 0)).set_ 5 (.int .i64 n)).set_ 6 (.slice A1 l1 c1)).set_ 7 (.slice A2 l2 c2)).alloc (.cells #[.int .u8 k1,.int .u8 wr1,.int .i64 a1] 85)
  simpa using this
 have hf5:Fr (fun b=>b=t6) w w5:=by
  rw[hw5]
  exact Fr.alloc ((((((((Fr.own (Fr.refl _ _) 0 _).own 1 _).own 2 _).own 3 _).own 4 _).own 5 _).own 6 _).own 7 _) _
 have hbt:w.heap.size≠t6:=by omega
 have hbt':=Ne.symm hbt
 clear hw5 r0 rl R1 R2 R3 R4 R5 R6 R7 R8 Rl g0 g1 g2 g3 g4 g5 g6 g7 z0 z1 z2 z3 z4 z5 z6 z7 H6 hta
 have HS5:=hdq (show ∀w',Fr (fun b=>b=t6) w5 w'→EdS w.heap.size k1 wr1 a1 w' from fun w' hf=>⟨(hk5.fr hf hbt).cell 0,(hk5.fr hf hbt).cell 1,(hk5.fr hf hbt).cell 2⟩)
 have m0:=h65.cell 0
 have m1:=h65.cell 1
 have m2:=h65.cell 2
 have y0:=h65.frozen 0
 have y1:=h65.frozen 1
 have y2:=h65.frozen 2
 have yl:=h65.lt
 have H65:=hdq h65
 have HF5:=hdq hf5
 simp only[List.getElem?_toArray,List.getElem?_cons_succ,List.getElem?_cons_zero]at m0 m1 m2
 clear hk5 h65 hf5
 have HQ2:=HQ.out
 clear HQ
 subst HQ2
 refine wp_region_E (EdS w.heap.size k1 wr1 a1) (fun _=>true) (by kernel_rfl) (HS5.out _ (Fr.refl _ _).drew) (fun hHeld=>?_)
 refine wpE_pu 0 ?_
 try simp only[Act.put,List.setIfInBounds_toArray,List.set_cons_zero,List.set_cons_succ]
 refine wpE_pu 2 ?_
 try simp only[Act.put,List.setIfInBounds_toArray,List.set_cons_zero,List.set_cons_succ]
 refine wpE_pu 4 ?_
 try simp only[Act.put,List.setIfInBounds_toArray,List.set_cons_zero,List.set_cons_succ]
 refine wpE_tv 1 hHeld ?_
 try simp only[Act.put,List.setIfInBounds_toArray,List.set_cons_zero,List.set_cons_succ]
 refine wpE_tv 3 hHeld ?_
 try simp only[Act.put,List.setIfInBounds_toArray,List.set_cons_zero,List.set_cons_succ]
 refine wpE_tv 5 hHeld ?_
 try simp only[Act.put,List.setIfInBounds_toArray,List.set_cons_zero,List.set_cons_succ]
 refine wpE_pu 6 ?_
 try simp only[Act.put,List.setIfInBounds_toArray,List.set_cons_zero,List.set_cons_succ]
 refine wpE_next 7 rfl (by kernel_rfl) (fun KK hK=>?_)
 go_simp
 refine hK _ _ (fun _ _=>HS5.out _ (((Fr.refl _ _).drew).own 0 _)) ?_
 clear hK KK
 try simp only[Act.put,List.setIfInBounds_toArray,List.set_cons_zero,List.set_cons_succ]
 refine wpE_pu 8 ?_
 try simp only[Act.put,List.setIfInBounds_toArray,List.set_cons_zero,List.set_cons_succ]
 refine wpE_next 9 rfl (by kernel_rfl) (fun KK hK=>?_)
 go_simp
 refine hK _ _ (fun _ _=>HS5.out _ ((((Fr.refl _ _).drew).own 0 _).own 1 _)) ?_
 clear hK KK
 try simp only[Act.put,List.setIfInBounds_toArray,List.set_cons_zero,List.set_cons_succ]
 refine wpE_pu 10 ?_
 try simp only[Act.put,List.setIfInBounds_toArray,List.set_cons_zero,List.set_cons_succ]
 refine wpE_next 11 rfl (by kernel_rfl) (fun KK hK=>?_)
 go_simp
 refine hK _ _ (fun _ _=>HS5.out _ (((((Fr.refl _ _).drew).own 0 _).own 1 _).own 2 _)) ?_
 clear hK KK
 try simp only[Act.put,List.setIfInBounds_toArray,List.set_cons_zero,List.set_cons_succ]
 refine wpE_done (by kernel_rfl) ?_
 refine⟨rfl,_,rfl,_,by simp[results,Tryz.results24],rfl,rfl,?_,(HF5.out.trans (((((Fr.refl _ _).drew).own 0 _).own 1 _).own 2 _))⟩
 have h9:=((H65.out.set_ 0 (.int .u8 k1)).set_ 1 (.int .u8 wr1)).set_ 2 (.int .i64 a1)
 simp at h9
 unfold bgEndC
 exact h9
end Go.Proofs.YtfomomaomggpbaaGreatDoor
