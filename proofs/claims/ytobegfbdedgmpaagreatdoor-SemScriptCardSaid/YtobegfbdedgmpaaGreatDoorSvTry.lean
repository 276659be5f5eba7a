/-
  sem.try: what something does, and the fault that it throws.
-/
import Derived.Test.YtobegfbdedgmpaaGreatDoorJgSvHas
import Derived.Defers
import Derived.Recover
set_option linter.unusedVariables false
set_option linter.unusedSimpArgs false
set_option maxHeartbeats 800000
set_option maxRecDepth 100000
namespace Go.Proofs.YtobegfbdedgmpaaGreatDoor
open Go.RowKit Go.Shelf

theorem zlY (p:Addr) (w:World):
  CallsD Tryz.prog 213 #[.pointer (some p)] .returning w fun e u' w'=>e= .returned (.tuple #[])∧u'= .returning ∧w'=w:=by
 refine callsD_of_wpS Tryz.func213 rfl fun c₀ cs hu=>?_
 simp only[Tryz.ntmps213,List.size_toArray,List.length_cons,List.length_nil,Nat.reduceAdd,Nat.reduceSub,Array.replicate_succ,Array.replicate_zero,List.push_toArray,List.append_toArray,List.nil_append,List.cons_append]
 apply wpS_seq
 apply wpS_region
 generalize hK:Exit.thenS _ _=K
 have HK:=hdq hK
 clear hK
 simp[wpOpsS,go_sem,recoverD,hu]
 have HK2:=HK.out
 clear HK
 subst HK2
 simp only[Exit.thenS]
 refine wpS_of_wp ?_
 generalize hQ:(fun e a' w'=>bodyPostS _ _ _ _ _ e a' _ w')=Q
 have HQ:=hdq hQ
 clear hQ
 go_wp2
 have HQ2:=HQ.out
 clear HQ
 subst HQ2
 cases c₀
 simp_all [bodyPostS,results,Tryz.results213]

theorem zkv (S:Nat) (a b:Int) (older:List PanicEntry) (w:World) (hS:S < w.heap.size) (hblk:SvBk w S 246 #[.int .u8 0,.int .i64 0]):
  CallsD Tryz.prog 213 #[.pointer (some ⟨S,0,none⟩)] (.panicking ({v:= .iface 246 (.agg #[.int .u8 a,.int .i64 b]),recovered:=false}::older)) w fun e u' w'=>
   e= .returned (.tuple #[])∧u'= .panicking ({v:= .iface 246 (.agg #[.int .u8 a,.int .i64 b]),recovered:=true}::older)∧SvBk w' S 246 #[.int .u8 a,.int .i64 b]∧Below S w w':=by
 refine callsD_of_wpS Tryz.func213 rfl fun c₀ cs hu=>?_
 simp only[Tryz.ntmps213,List.size_toArray,List.length_cons,List.length_nil,Nat.reduceAdd,Nat.reduceSub,Array.replicate_succ,Array.replicate_zero,List.push_toArray,List.append_toArray,List.nil_append,List.cons_append]
 apply wpS_seq
 apply wpS_region
 generalize hK:Exit.thenS _ _=K
 have HK:=hdq hK
 clear hK
 simp[wpOpsS,go_sem,recoverD,hu]
 have HK2:=HK.out
 clear HK
 subst HK2
 simp only[Exit.thenS]
 refine wpS_of_wp ?_
 generalize hQ:(fun e a' w'=>bodyPostS _ _ _ _ _ e a' _ w')=Q
 have HQ:=hdq hQ
 clear hQ
 have c0:=hblk.cell 0
 have c1:=hblk.cell 1
 have f0:=hblk.frozen 0
 have f1:=hblk.frozen 1
 have HU:=hdq hu
 clear hu
 have hta:∀W:World,(Instr.typeAssert (.iface 246 (.agg #[.int .u8 a,.int .i64 b])) 20 246 true).run Tryz.prog W= .ok (.tuple #[.agg #[.int .u8 a,.int .i64 b],.bool true]) W:=fun _=>by kernel_rfl
 simp only[List.getElem?_toArray,List.getElem?_cons_succ,List.getElem?_cons_zero]at c0 c1
 go_wp2
 have HQ2:=HQ.out
 clear HQ hta
 subst HQ2
 have hb:=(hblk.set_ 0 (.int .u8 a)).set_ 1 (.int .i64 b)
 refine⟨rfl,_,rfl,_,by simp[results,Tryz.results213],rfl,rfl,?_,?_⟩
 ·exact SvBk.alloc (by simpa using hb) _
 ·exact(((Below.refl _ _).setCell (by simp) _).setCell (by simp) _).alloc (by simp;omega) _

theorem zc2 (g:Nat) (cap:Array Value) (Q:World→Prop) (w:World) (hent:Enters Tryz.prog g)
  (h:Calls Tryz.prog g cap (w.alloc (.cells #[.int .u8 0,.int .i64 0] 246)) fun e w1=>e= .returned (.tuple #[])∧Q w1∧SvBk w1 w.heap.size 246 #[.int .u8 0,.int .i64 0]):
  Calls Tryz.prog 158 #[.func (.func g) #[] cap] w fun e w'=>e= .returned (.agg #[.int .u8 0,.int .i64 0])∧Q w':=by
 have hmf:= @makeF Tryz.prog
 unfold Enters at hent
 have H:=hdq h
 clear h
 go_enter_defers Tryz.func158,Tryz.ntmps158
 go_wp2_with fail
 try simp only[Array.empty_append,Array.append_empty]
 refine H.out.mono ?_
 rintro e w1 ⟨rfl,hq,hb⟩
 have HQ:=hdq hq
 have c0:=hb.cell 0
 have c1:=hb.cell 1
 simp only[List.getElem?_toArray,List.getElem?_cons_succ,List.getElem?_cons_zero]at c0 c1
 clear hq
 go_wp2_with fail
 refine leaves_cons (f:=213) (args:= #[.pointer (some ⟨w.heap.size,0,none⟩)]) (by simp) (by simp[go_sem]) ?_
 refine(zlY ⟨w.heap.size,0,none⟩ _).mono ?_
 rintro e u' w'' ⟨rfl,rfl,rfl⟩
 have HQ2:=HQ.out
 clear HQ hb
 simp[Leaves,settle,results,Tryz.results158,go_sem,c0,c1]
 exact HQ2

theorem zeX (g:Nat) (cap:Array Value) (f:Int×Int) (Q:World→Prop) (w:World) (hent:Enters Tryz.prog g)
  (h:Calls Tryz.prog g cap (w.alloc (.cells #[.int .u8 0,.int .i64 0] 246)) fun e w1=>e=fault 246 f∧Q w1∧SvBk w1 w.heap.size 246 #[.int .u8 0,.int .i64 0]):
  Calls Tryz.prog 158 #[.func (.func g) #[] cap] w fun e w'=>e= .returned (.agg #[.int .u8 f.1,.int .i64 f.2])∧∃w1,Q w1∧Below w.heap.size w1 w':=by
 have hmf:= @makeF Tryz.prog
 unfold Enters at hent
 obtain⟨a,b⟩:=f
 unfold fault at h
 simp only at h ⊢
 have H:=hdq h
 clear h
 go_enter_defers Tryz.func158,Tryz.ntmps158
 go_wp2_with fail
 refine H.out.mono ?_
 rintro e w1 ⟨rfl,hq,hb⟩
 have HQ:=hdq hq
 clear hq
 go_wp2_with fail
 refine leaves_cons (f:=213) (args:= #[.pointer (some ⟨w.heap.size,0,none⟩)]) (by simp) (by simp[go_sem]) ?_
 refine(zkv w.heap.size a b [] _ hb.lt hb).mono ?_
 rintro e u' w2 ⟨rfl,rfl,hb2,hbel⟩
 have c0:=hb2.cell 0
 have c1:=hb2.cell 1
 simp only[List.getElem?_toArray,List.getElem?_cons_succ,List.getElem?_cons_zero]at c0 c1
 simp[Leaves,settle,results,Tryz.results158,go_sem,c0,c1]
 exact⟨w1,HQ.out,hbel⟩
end Go.Proofs.YtobegfbdedgmpaaGreatDoor
