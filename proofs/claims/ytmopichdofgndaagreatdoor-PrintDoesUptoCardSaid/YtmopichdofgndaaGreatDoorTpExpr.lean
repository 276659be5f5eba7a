/-
  ref10: expr, within: THE CONTRACT. Printed by wip/gen_in/reg.py.
-/
import Derived.Test.YtmopichdofgndaaGreatDoorJgTpLevel
import Derived.Test.YtmopichdofgndaaGreatDoorJnPnW
set_option linter.unusedVariables false
set_option linter.unusedSimpArgs false
set_option maxHeartbeats 3200000
set_option maxRecDepth 100000
namespace Go.Proofs.YtmopichdofgndaaGreatDoor
open Go.RowKit Go.Shelf

theorem ExR.first9 {w:World} {S:Nat→Prop} {Z:Prop} {k:Int} {nm:ByteArray} {n:Int} {args:Exs} {at_:Int} {r:Exs} {b o:Nat} (h:ExR w S Z (.cons k nm n args at_ r) b o):∃A c,SlR (fun b' o'=>ExR w S Z args b' o') args.len 64 A c∧in64 n∧S b∧
    w.cell? ⟨b,o,none⟩=some (.int .u8 k)∧w.cell? ⟨b,o+1,none⟩=some (.string nm)∧w.cell? ⟨b,o+2,none⟩=some (.int .i64 n)∧w.cell? ⟨b,o+3,none⟩=some (.slice A args.len c)∧w.cell? ⟨b,o+4,none⟩=some (.int .i64 at_):=by
  obtain⟨⟨h1,_,_,h2,_,c0,c1,c2,c4⟩,⟨A,c,c3,s3⟩,_⟩:=h
  exact⟨A,c,s3,h2,h1,c0,c1,c2,c3,c4⟩
def TE (k:Int) (nm:ByteArray) (n:Int) (args:Exs):Prop:=∀(at_:Int) (o:ByteArray) (w:World) (S:Nat→Prop) (Z:Prop) (A:Option Addr) (c:Nat),TwEnv w→(∀x,S x→x < w.heap.size)→SlR (fun b o=>ExR w S Z args b o) args.len 64 A c→in64 n→
  o.size+sumT (innE k nm n (txX args))≤140737488355328→Calls Tryz.prog 206 #[.string o,.agg #[.int .u8 k,.string nm,.int .i64 n,.slice A args.len c,.int .i64 at_]] w (TxP (putsA o (innE k nm n (txX args))) w)
def TWi (k:Int) (nm:ByteArray) (n:Int) (args:Exs):Prop:=∀(at_:Int) (o:ByteArray) (w:World) (S:Nat→Prop) (Z:Prop) (A:Option Addr) (c least:Nat),TwEnv w→(∀x,S x→x < w.heap.size)→SlR (fun b o=>ExR w S Z args b o) args.len 64 A c→in64 n→least≤5→
  o.size+sumT (arE least (lvlE k,innE k nm n (txX args)))≤140737488355328→Calls Tryz.prog 229 #[.string o,.agg #[.int .u8 k,.string nm,.int .i64 n,.slice A args.len c,.int .i64 at_],.int .i64 least] w (TxP (putsA o (arE least (lvlE k,innE k nm n (txX args)))) w)
theorem putsA_room {o:ByteArray} {a b:Tx} {M:Nat} (h:o.size+sumT (a++b)≤M):(putsA o a).size +sumT b≤M:=by
  have:=putsA_size a o
  rw[sumT_app]at h
  omega
theorem one_room {o t:ByteArray} {r:Tx} {M:Nat} (h:o.size+sumT (t.data.toList::r)≤M) (hM:M≤9223372036854775806):o.size+t.size+1≤9223372036854775807∧(putA o t).size +sumT r≤M:=by
  have:=putA_size o t
  simp only[sumT]at h
  have e:t.data.toList.length=t.size:=by rw[Array.length_toList];rfl
  omega
theorem tw_one {k:Int} {nm:ByteArray} {n:Int} {args:Exs} (hk:1≤k∧k≤11) (ih:TE k nm n args):TWi k nm n args:=by
  intro at_ o w S Z A c least he hS hx hn hle hlen
  obtain⟨w1,hw1⟩:=nmq (w.alloc (.cells #[.int .u8 k,.string nm,.int .i64 n,.slice A args.len c,.int .i64 at_] 41))
  have hf1:Fr NoT w w1:=by rw[hw1];exact(Fr.refl _ _).alloc _
  have hk1:Bk w1 w.heap.size 41 #[.int .u8 k,.string nm,.int .i64 n,.slice A args.len c,.int .i64 at_]:=by rw[hw1];exact Bk.new _ _ _
  have HC:=hdq (fun(o':ByteArray) (W:World) (hf:Fr NoT w W) hl=>ih at_ o' W S Z A c (he.keep hf.plain) (fun b hb=>ltq (hS b hb) hf.size) (hx.imp fun _ _ hx=>ExR.keep (hf.same fun b hb=>⟨hS b hb,id⟩) hx) hn hl)
  obtain⟨tx,htx⟩:=nmq (innE k nm n (txX args))
  obtain⟨m,hm⟩:=nmq (lvlE k)
  have HLV:=hdq (fun W=>tlevel_any k hk nm n at_ (.slice A args.len c) W)
  rw[←hm]at HLV
  rw[←htx]at HC hlen ⊢
  rw[←hm]at hlen ⊢
  obtain⟨al,hal⟩:=nmq args.len
  rw[←hal]at HC HLV hw1 hk1 ⊢
  have HW1:=hdq hw1
  have HF1:=hdq hf1
  have HK1:=hdq hk1
  by_cases hlt:m < least
  · have hE:arE least (m,tx)= [40]::(tx++ [[41]]):=by unfold arE;rw[if_pos hlt]
    rw[hE]at hlen ⊢
    have r1:=one_room (t:=⟨#[40]⟩) hlen (by decide)
    have r2:=putsA_room r1.2
    have r3:=one_room (t:=⟨#[41]⟩) r2 (by decide)
    have HR:=hdq (aiq r1 (aiq (show(putA o ⟨#[40]⟩).size +sumT tx≤140737488355328 by have:=r1.2;rw[sumT_app]at this;omega) r3.1))
    have hge:¬(least:Int)≤(m:Int):=by omega
    clear hE r1 r2 r3 hlen he hS hx ih htx hm hal hw1 hf1 hk1 hk hn
    go_enter Tryz.func229,Tryz.ntmps229
    go_wp2_with fail
    rw[←HW1.out]
    refine(HLV.out _).mono ?_
    rintro _ w2 ⟨rfl,hf2⟩
    have HF2:=hdq (HF1.out.trans hf2)
    have hk2:=HK1.out.fr0 hf2
    have c0:=hk2.cell 0
    have c1:=hk2.cell 1
    have c2:=hk2.cell 2
    have c3:=hk2.cell 3
    have c4:=hk2.cell 4
    have hl1:=hk2.lt
    simp only[getsL]at c0 c1 c2 c3 c4
    clear hf2 hk2
    go_wp2_with fail
    refine wp_region_still_tail 3 (by kernel_rfl) (by kernel_rfl) ?_
    simp only[List.take_succ_cons,List.take_zero,List.drop_succ_cons,List.drop_zero]
    repeat still_step
    still_call (tput_q _ _ HR.out.1.1 _)
    repeat still_step
    try refine wpStill_nil ?_
    go_wp2_with fail
    refine(HC.out _ _ (HF2.out.trans (Fr.refl NoT w2).drew) HR.out.2.1).mono ?_
    rintro _ w3 ⟨rfl,hf3⟩
    have HF3:=hdq ((HF2.out.trans (Fr.refl NoT w2).drew).trans hf3)
    clear hf3 c0 c1 c2 c3 c4 hl1
    go_wp2_with fail
    refine(tput_any _ _ HR.out.2.2 _).mono ?_
    rintro _ _ ⟨rfl,rfl⟩
    go_wp2_with fail
    go_ret
    exact⟨by rw[putsA_cons,putsA_app];rfl,HF3.out⟩
  · have hE:arE least (m,tx)=tx:=by unfold arE;rw[if_neg hlt]
    rw[hE]at hlen ⊢
    have HR:=hdq hlen
    have hge:(least:Int)≤(m:Int):=by omega
    clear hE hlen he hS hx ih htx hm hal hw1 hf1 hk1 hk hn
    go_enter Tryz.func229,Tryz.ntmps229
    go_wp2_with fail
    rw[←HW1.out]
    refine(HLV.out _).mono ?_
    rintro _ w2 ⟨rfl,hf2⟩
    have HF2:=hdq (HF1.out.trans hf2)
    have hk2:=HK1.out.fr0 hf2
    have c0:=hk2.cell 0
    have c1:=hk2.cell 1
    have c2:=hk2.cell 2
    have c3:=hk2.cell 3
    have c4:=hk2.cell 4
    have hl1:=hk2.lt
    simp only[getsL]at c0 c1 c2 c3 c4
    clear hf2 hk2
    go_wp2_with fail
    refine(HC.out _ _ HF2.out HR.out).mono ?_
    rintro _ w3 ⟨rfl,hf3⟩
    have HF3:=hdq (HF2.out.trans hf3)
    clear hf3 c0 c1 c2 c3 c4 hl1
    go_wp2_with fail
    go_ret
    exact⟨rfl,HF3.out⟩
theorem tE0 (p:Nat×Tx):arE 0 p=p.2:=by unfold arE;rw[if_neg (Nat.not_lt_zero _)]
theorem te_num (nm:ByteArray) (n:Int) (args:Exs):TE 1 nm n args:=by
  intro at_ o w S Z A c he hS hx hn hlen
  have hlen:o.size+sumT [(ba (Lib.itoa n)).data.toList]≤140737488355328:=hlen
  have HR:=hdq (one_room hlen (by decide)).1
  have HI:=hdq (fun(W:World) (hf:Fr NoT w W)=>(he.keep hf.plain).itoa n hn)
  obtain⟨al,hal⟩:=nmq args.len
  rw[←hal]
  have HF1:=hdq (show Fr NoT w (w.alloc (.cells #[.int .u8 1,.string nm,.int .i64 n,.slice A al c,.int .i64 at_] 41))from(Fr.refl _ _).alloc _)
  clear he hS hx hn hlen hal
  go_enter Tryz.func206,Tryz.ntmps206
  go_wp2_with fail
  refine(HI.out _ HF1.out).mono ?_
  rintro _ w2 ⟨rfl,hf2⟩
  have HF2:=hdq (HF1.out.trans hf2)
  clear hf2
  go_wp2_with fail
  refine(tput_any _ _ HR.out _).mono ?_
  rintro _ _ ⟨rfl,rfl⟩
  go_wp2_with fail
  go_ret
  exact⟨rfl,HF2.out⟩
theorem te_var (nm:ByteArray) (n:Int) (args:Exs):TE 2 nm n args:=by
  intro at_ o w S Z A c he hS hx hn hlen
  have hlen:o.size+sumT [nm.data.toList]≤140737488355328:=hlen
  have HR:=hdq (one_room hlen (by decide)).1
  obtain⟨al,hal⟩:=nmq args.len
  rw[←hal]
  have HF1:=hdq (show Fr NoT w (w.alloc (.cells #[.int .u8 2,.string nm,.int .i64 n,.slice A al c,.int .i64 at_] 41))from(Fr.refl _ _).alloc _)
  clear he hS hx hn hlen hal
  go_enter Tryz.func206,Tryz.ntmps206
  go_wp2_with fail
  refine(tput_any _ _ HR.out _).mono ?_
  rintro _ _ ⟨rfl,rfl⟩
  go_wp2_with fail
  go_ret
  exact⟨rfl,HF1.out⟩
theorem te_load (nm:ByteArray) (n:Int) (k1:Int) (nm1:ByteArray) (n1:Int) (b1:Exs) (at1:Int) (ih:TE k1 nm1 n1 b1):TE 3 nm n (.cons k1 nm1 n1 b1 at1 .nil):=by
  intro at_ o w S Z A c he hS hx hn hlen
  have hi:innE 3 nm n (txX (.cons k1 nm1 n1 b1 at1 .nil))=nm.data.toList:: [91]::(innE k1 nm1 n1 (txX b1)++ [[93]]):=by
    show nm.data.toList:: [91]::(arE 0 (lvlE k1,innE k1 nm1 n1 (txX b1))++ [[93]])=_
    rw[tE0]
  rw[hi]at hlen ⊢
  obtain⟨tx,htx⟩:=nmq (innE k1 nm1 n1 (txX b1))
  unfold TE at ih
  rw[←htx]at ih hlen ⊢
  have r1:=one_room hlen (by decide)
  have r2:=one_room (t:=⟨#[91]⟩) r1.2 (by decide)
  have r3:=putsA_room r2.2
  have r4:=one_room (t:=⟨#[93]⟩) r3 (by decide)
  have HR:=hdq (aiq r1.1 (aiq r2.1 (aiq (show(putA (putA o nm) ⟨#[91]⟩).size +sumT tx≤140737488355328 by have:=r2.2;rw[sumT_app]at this;omega) r4.1)))
  obtain⟨w1,hw1⟩:=nmq (w.alloc (.cells #[.int .u8 3,.string nm,.int .i64 n,.slice A 1 c,.int .i64 at_] 41))
  have hf1:Fr NoT w w1:=by rw[hw1];exact(Fr.refl _ _).alloc _
  have hk1:Bk w1 w.heap.size 41 #[.int .u8 3,.string nm,.int .i64 n,.slice A 1 c,.int .i64 at_]:=by rw[hw1];exact Bk.new _ _ _
  obtain⟨bA,oA,rfl,hat⟩:=hx.2.2 (Nat.succ_pos _)
  have hat1:=ExR.keep (hf1.same fun b hb=>⟨hS b hb,id⟩) hat
  obtain⟨A1,q1,s1,hn1,hbS,c0,c1,c2,c3,c4⟩:=hat1.first9
  have hlA:bA < w1.heap.size:=ltq (hS _ hbS) hf1.size
  have hfd:Fr NoT w1 w1.drew:=(Fr.refl _ _).drew
  have HC:=hdq (fun(o':ByteArray) hl=>ih at1 o' w1.drew S Z A1 q1 (he.keep (hf1.trans hfd).plain) (fun b hb=>ltq (hS b hb) (hf1.trans hfd).size) (s1.imp fun _ _ hx=>ExR.keep (hfd.same fun b hb=>⟨ltq (hS b hb) hf1.size,id⟩) hx) hn1 hl)
  have x1:=hk1.cell 1
  have x3:=hk1.cell 3
  have xl:=hk1.lt
  simp only[getsL]at x1 x3
  have HW1:=hdq hw1
  have HF1:=hdq (hf1.trans hfd)
  clear he hS hx hn hlen hi htx r1 r2 r3 r4 hat hat1 s1 hbS hw1 hf1 hk1 hn1 hfd ih
  show Calls _ _ #[.string o,.agg #[.int .u8 3,.string nm,.int .i64 n,.slice (some ⟨bA,oA,none⟩) 1 c,.int .i64 at_]] _ _
  go_enter Tryz.func206,Tryz.ntmps206
  go_wp2_with fail
  rw[←HW1.out]
  refine wp_region_still_tail 9 (by kernel_rfl) (by kernel_rfl) ?_
  simp only[List.take_succ_cons,List.take_zero,List.drop_succ_cons,List.drop_zero]
  repeat still_step
  still_call (tput_q _ _ HR.out.1 _)
  repeat still_step
  still_call (tput_q _ _ HR.out.2.1 _)
  repeat still_step
  try refine wpStill_nil ?_
  go_wp2_with fail
  refine(HC.out _ HR.out.2.2.1).mono ?_
  rintro _ w2 ⟨rfl,hf2⟩
  have HF2:=hdq (HF1.out.trans hf2)
  clear hf2 c0 c1 c2 c3 c4 x1 x3 xl hlA
  go_wp2_with fail
  refine(tput_any _ _ HR.out.2.2.2 _).mono ?_
  rintro _ _ ⟨rfl,rfl⟩
  go_wp2_with fail
  go_ret
  exact⟨by rw[putsA_cons,putsA_cons,putsA_app];rfl,HF2.out⟩
theorem te_neg (nm:ByteArray) (n:Int) (k1:Int) (nm1:ByteArray) (n1:Int) (b1:Exs) (at1:Int) (ih:TWi k1 nm1 n1 b1):TE 4 nm n (.cons k1 nm1 n1 b1 at1 .nil):=by
  intro at_ o w S Z A c he hS hx hn hlen
  have hi:innE 4 nm n (txX (.cons k1 nm1 n1 b1 at1 .nil))= [45]::arE 4 (lvlE k1,innE k1 nm1 n1 (txX b1)):=rfl
  rw[hi]at hlen ⊢
  obtain⟨tx,htx⟩:=nmq (arE 4 (lvlE k1,innE k1 nm1 n1 (txX b1)))
  unfold TWi at ih
  have ih:=fun at_ o w S Z A c=>ih at_ o w S Z A c 4
  rw[←htx]at ih hlen ⊢
  have r1:=one_room (t:=⟨#[45]⟩) hlen (by decide)
  have HR:=hdq r1
  obtain⟨w1,hw1⟩:=nmq (w.alloc (.cells #[.int .u8 4,.string nm,.int .i64 n,.slice A 1 c,.int .i64 at_] 41))
  have hf1:Fr NoT w w1:=by rw[hw1];exact(Fr.refl _ _).alloc _
  have hk1:Bk w1 w.heap.size 41 #[.int .u8 4,.string nm,.int .i64 n,.slice A 1 c,.int .i64 at_]:=by rw[hw1];exact Bk.new _ _ _
  obtain⟨bA,oA,rfl,hat⟩:=hx.2.2 (Nat.succ_pos _)
  have hat1:=ExR.keep (hf1.same fun b hb=>⟨hS b hb,id⟩) hat
  obtain⟨A1,q1,s1,hn1,hbS,c0,c1,c2,c3,c4⟩:=hat1.first9
  have hlA:bA < w1.heap.size:=ltq (hS _ hbS) hf1.size
  have hfd:Fr NoT w1 w1.drew:=(Fr.refl _ _).drew
  have HC:=hdq (fun(o':ByteArray) hl=>ih at1 o' w1.drew S Z A1 q1 (he.keep (hf1.trans hfd).plain) (fun b hb=>ltq (hS b hb) (hf1.trans hfd).size) (s1.imp fun _ _ hx=>ExR.keep (hfd.same fun b hb=>⟨ltq (hS b hb) hf1.size,id⟩) hx) hn1 (by decide) hl)
  have x3:=hk1.cell 3
  have xl:=hk1.lt
  simp only[getsL]at x3
  have HW1:=hdq hw1
  have HF1:=hdq (hf1.trans hfd)
  clear he hS hx hn hlen hi htx r1 hat hat1 s1 hbS hw1 hf1 hk1 hn1 hfd ih
  show Calls _ _ #[.string o,.agg #[.int .u8 4,.string nm,.int .i64 n,.slice (some ⟨bA,oA,none⟩) 1 c,.int .i64 at_]] _ _
  go_enter Tryz.func206,Tryz.ntmps206
  go_wp2_with fail
  rw[←HW1.out]
  refine wp_region_still_tail 6 (by kernel_rfl) (by kernel_rfl) ?_
  simp only[List.take_succ_cons,List.take_zero,List.drop_succ_cons,List.drop_zero]
  repeat still_step
  still_call (tput_q _ _ HR.out.1 _)
  repeat still_step
  try refine wpStill_nil ?_
  go_wp2_with fail
  refine(HC.out _ HR.out.2).mono ?_
  rintro _ w2 ⟨rfl,hf2⟩
  have HF2:=hdq (HF1.out.trans hf2)
  clear hf2 c0 c1 c2 c3 c4 x3 xl hlA
  go_wp2_with fail
  go_ret
  exact⟨by rw[putsA_cons];rfl,HF2.out⟩
def TeS (g:Nat) (k:Int) (sl:Value) (b o:Nat) (a0:Int) (a1:ByteArray) (a2:Int) (a3:Value) (a4:Int) (b0:Int) (b1:ByteArray) (b2:Int) (b3:Value) (b4:Int) (W:World):Prop:=
  W.cell? ⟨g,0,none⟩=some (.int .u8 k)∧W.cell? ⟨g,3,none⟩=some sl∧
  W.cell? ⟨b,o,none⟩=some (.int .u8 a0)∧W.cell? ⟨b,o+1,none⟩=some (.string a1)∧W.cell? ⟨b,o+2,none⟩=some (.int .i64 a2)∧W.cell? ⟨b,o+3,none⟩=some a3∧W.cell? ⟨b,o+4,none⟩=some (.int .i64 a4)∧
  W.cell? ⟨b,o+5,none⟩=some (.int .u8 b0)∧W.cell? ⟨b,o+5+1,none⟩=some (.string b1)∧W.cell? ⟨b,o+5+2,none⟩=some (.int .i64 b2)∧W.cell? ⟨b,o+5+3,none⟩=some b3∧W.cell? ⟨b,o+5+4,none⟩=some (.int .i64 b4)
theorem te_two (k:Int) (m:Nat) (hk:5≤k∧k≤11) (hm:m=lvlE k) (nm:ByteArray) (n:Int) (k1:Int) (nm1:ByteArray) (n1:Int) (b1:Exs) (at1:Int) (k2:Int) (nm2:ByteArray) (n2:Int) (b2:Exs) (at2:Int) (ih:TWi k1 nm1 n1 b1) (ih2:TWi k2 nm2 n2 b2):TE k nm n (.cons k1 nm1 n1 b1 at1 (.cons k2 nm2 n2 b2 at2 .nil)):=by
  intro at_ o w S Z A c he hS hx hn hlen
  have hm4 : m ≤ 4 := by rw [hm]; unfold lvlE; repeat' split
                         all_goals omega
  have hi:innE k nm n (txX (.cons k1 nm1 n1 b1 at1 (.cons k2 nm2 n2 b2 at2 .nil)))=arE m (lvlE k1,innE k1 nm1 n1 (txX b1))++sgnE k::arE (m+1) (lvlE k2,innE k2 nm2 n2 (txX b2)):=by
    unfold innE
    rw[if_neg (by omega),if_neg (by omega),if_neg (by omega),if_neg (by omega),hm]
    rfl
  rw[hi]at hlen ⊢
  obtain⟨tx,htx⟩:=nmq (arE m (lvlE k1,innE k1 nm1 n1 (txX b1)))
  obtain⟨ty,hty⟩:=nmq (arE (m+1) (lvlE k2,innE k2 nm2 n2 (txX b2)))
  unfold TWi at ih ih2
  have ih:=fun at_ o w S Z A c=>ih at_ o w S Z A c m
  have ih2:=fun at_ o w S Z A c=>ih2 at_ o w S Z A c (m+1)
  rw[←htx]at ih hlen ⊢
  rw[←hty]at ih2 hlen ⊢
  have HSG:=hdq (fun W=>tsign_any k hk W)
  have HLV:=hdq (fun sl W=>tlevel_any k ⟨by omega,hk.2⟩ nm n at_ sl W)
  rw[←hm]at HLV
  obtain⟨sg,hsg⟩:=nmq (sgnE k)
  rw[←hsg]at HSG hlen ⊢
  have r1:=putsA_room hlen
  have r2:=one_room (t:=ba sg) r1 (by decide)
  have HR:=hdq (aiq (show o.size+sumT tx≤140737488355328 by rw[sumT_app]at hlen;omega) r2)
  obtain⟨w1,hw1⟩:=nmq (w.alloc (.cells #[.int .u8 k,.string nm,.int .i64 n,.slice A 2 c,.int .i64 at_] 41))
  have hf1:Fr NoT w w1:=by rw[hw1];exact(Fr.refl _ _).alloc _
  have hk1:Bk w1 w.heap.size 41 #[.int .u8 k,.string nm,.int .i64 n,.slice A 2 c,.int .i64 at_]:=by rw[hw1];exact Bk.new _ _ _
  obtain⟨bA,oA,rfl,hat⟩:=hx.2.2 (Nat.succ_pos _)
  obtain⟨A1,q1,s1,hn1,hbS,c0,c1,c2,c3,c4⟩:=hat.first9
  obtain⟨A2,q2,s2,hn2,_,d0,d1,d2,d3,d4⟩:=ExR.first9 hat.2.2
  have hlA:bA < w.heap.size:=hS _ hbS
  have HS:=hdq (show ∀W,Fr NoT w1 W→TeS w.heap.size k (.slice (some ⟨bA,oA,none⟩) 2 c) bA oA k1 nm1 n1 (.slice A1 b1.len q1) at1 k2 nm2 n2 (.slice A2 b2.len q2) at2 W from fun W hf=>
    have hF:=hf1.trans hf
    have hk:=hk1.fr0 hf
    have hc:∀j u,w.cell? ⟨bA,j,none⟩=some u→W.cell? ⟨bA,j,none⟩=some u:=fun j u h=>(hF.cell (p:=⟨bA,j,none⟩) hlA id).trans h
    ⟨hk.cell 0,hk.cell 3,hc _ _ c0,hc _ _ c1,hc _ _ c2,hc _ _ c3,hc _ _ c4,hc _ _ d0,hc _ _ d1,hc _ _ d2,hc _ _ d3,hc _ _ d4⟩)
  have HL:=hdq (show ∀W,Fr NoT w1 W→bA < W.heap.size∧w.heap.size < W.heap.size from fun W hf=>⟨ltq hlA (hf1.trans hf).size,(hk1.fr0 hf).lt⟩)
  have HC:=hdq (fun(o':ByteArray) (W:World) (hf:Fr NoT w1 W) hl=>ih at1 o' W S Z A1 q1 (he.keep (hf1.trans hf).plain) (fun b hb=>ltq (hS b hb) (hf1.trans hf).size) (s1.imp fun _ _ hx=>ExR.keep ((hf1.trans hf).same fun b hb=>⟨hS b hb,id⟩) hx) hn1 (by omega) hl)
  have HC2:=hdq (fun(o':ByteArray) (W:World) (hf:Fr NoT w1 W) hl=>ih2 at2 o' W S Z A2 q2 (he.keep (hf1.trans hf).plain) (fun b hb=>ltq (hS b hb) (hf1.trans hf).size) (s2.imp fun _ _ hx=>ExR.keep ((hf1.trans hf).same fun b hb=>⟨hS b hb,id⟩) hx) hn2 (by omega) hl)
  obtain⟨l1,hl1⟩:=nmq b1.len
  obtain⟨l2,hl2⟩:=nmq b2.len
  rw[←hl1]at HC HS
  rw[←hl2]at HC2 HS
  have HW1:=hdq hw1
  have HF1:=hdq hf1
  have HK1:=hdq hk1
  have wm:IntKind.i64.wrap ((m:Int)+1)=(m:Int)+1:=IntWalk.i64_in _ (by omega)
  clear he hS hx hn hlen hi htx hty r1 r2 hat s1 s2 hbS hw1 hf1 hk1 hn1 hn2 ih ih2 hlA c0 c1 c2 c3 c4 d0 d1 d2 d3 d4 hsg hl1 hl2
  have e1:(k==1)=false:=by simp;omega
  have e2:(k==2)=false:=by simp;omega
  have e3:(k==3)=false:=by simp;omega
  have e4:(k==4)=false:=by simp;omega
  clear hk hm
  show Calls _ _ #[.string o,.agg #[.int .u8 k,.string nm,.int .i64 n,.slice (some ⟨bA,oA,none⟩) 2 c,.int .i64 at_]] _ _
  go_enter Tryz.func206,Tryz.ntmps206
  go_wp2_with fail
  rw[←HW1.out]
  refine(HLV.out _ _).mono ?_
  rintro _ w2 ⟨rfl,hf2⟩
  have hfd:Fr NoT w1 w2.drew:=hf2.trans (Fr.refl _ _).drew
  have HF2:=hdq hfd
  have HS2:=hdq (HS.out _ hfd)
  clear hf2 hfd
  go_wp2_with fail
  refine wp_region_E (TeS w.heap.size k (.slice (some ⟨bA,oA,none⟩) 2 c) bA oA k1 nm1 n1 (.slice A1 l1 q1) at1 k2 nm2 n2 (.slice A2 l2 q2) at2) (fun _=>true) (by kernel_rfl) HS2.out (fun hHeld=>?_)
  refine wpE_pu 0 ?_
  try simp only[putsL]
  refine wpE_pu 1 ?_
  try simp only[putsL]
  refine wpE_take 2 (v:=?_) rfl (by kernel_rfl) (fun _ _ _ h=>h) hHeld (by rfl) ?_ ?_;rotate_left
  · intro wz hSz;(try dsimp only[TeS]at hSz);go_simp;try with_reducible rfl
  try simp only[putsL]
  refine wpE_pu 3 ?_
  try simp only[putsL]
  refine wpE_take 4 (v:=?_) rfl (by kernel_rfl) (fun _ _ _ h=>h) hHeld (by rfl) ?_ ?_;rotate_left
  · intro wz hSz;(try dsimp only[TeS]at hSz);go_simp;try with_reducible rfl
  try simp only[putsL]
  refine wpE_pu 5 ?_
  try simp only[putsL]
  refine wpE_pu 7 ?_
  try simp only[putsL]
  refine wpE_take 8 (v:=?_) rfl (by kernel_rfl) (fun _ _ _ h=>h) hHeld (by rfl) ?_ ?_;rotate_left
  · intro wz hSz;(try dsimp only[TeS]at hSz);go_simp;try with_reducible rfl
  try simp only[putsL]
  refine wpE_pu 11 ?_
  try simp only[putsL]
  refine wpE_take 12 (v:=?_) rfl (by kernel_rfl) (fun _ _ _ h=>h) hHeld (by rfl) ?_ ?_;rotate_left
  · intro wz hSz;(try dsimp only[TeS]at hSz);go_simp;try with_reducible rfl
  try simp only[putsL]
  refine wpE_pu 13 ?_
  try simp only[putsL]
  refine wpE_take 14 (v:=?_) rfl (by kernel_rfl) (fun _ _ _ h=>h) hHeld (by rfl) ?_ ?_;rotate_left
  · intro wz hSz;(try dsimp only[TeS]at hSz);go_simp;try with_reducible rfl
  try simp only[putsL]
  refine wpE_pu 15 ?_
  try simp only[putsL]
  refine wpE_pu 16 ?_
  try simp only[putsL]
  refine wpE_next 6 rfl (by kernel_rfl) (fun KK hK=>?_)
  go_simp
  go_at_call 229
  refine(HC.out _ _ HF2.out HR.out.1).mono ?_
  rintro _ w3 ⟨rfl,hf3⟩
  have HF3:=hdq (HF2.out.trans hf3)
  try dsimp only
  refine hK _ _ (fun _ _=>HS.out _ HF3.out) ?_
  clear hK KK hf3
  try simp only[putsL]
  refine wpE_next 9 rfl (by kernel_rfl) (fun KK hK=>?_)
  go_simp
  go_at_call 231
  refine(HSG.out _).mono ?_
  rintro _ w4 ⟨rfl,hf4⟩
  have HF4:=hdq (HF3.out.trans hf4)
  try dsimp only
  refine hK _ _ (fun _ _=>HS.out _ HF4.out) ?_
  clear hK KK hf4
  try simp only[putsL]
  refine wpE_next 10 rfl (by kernel_rfl) (fun KK hK=>?_)
  go_simp
  go_at_call 107
  refine(tput_any _ _ HR.out.2.1 _).mono ?_
  rintro _ _ ⟨rfl,rfl⟩
  try dsimp only
  refine hK _ _ (fun _ _=>HS.out _ HF4.out) ?_
  clear hK KK
  try simp only[putsL]
  refine wpE_next 17 rfl (by kernel_rfl) (fun KK hK=>?_)
  go_simp
  go_at_call 229
  refine(HC2.out _ _ HF4.out HR.out.2.2).mono ?_
  rintro _ w5 ⟨rfl,hf5⟩
  have HF5:=hdq (HF4.out.trans hf5)
  try dsimp only
  refine hK _ _ (fun _ _=>HS.out _ HF5.out) ?_
  clear hK KK hf5
  try simp only[putsL]
  refine wpE_pu 18 ?_
  try simp only[putsL]
  refine wpE_done (by kernel_rfl) ?_
  go_wp2_with fail
  go_ret
  exact⟨by rw[putsA_app,putsA_cons];rfl,HF1.out.trans HF5.out⟩
theorem te_one (k:Int) (nm:ByteArray) (n:Int) (args:Exs) (at_:Int) (hk:okE k nm n args at_=true) (ih:∀(i:Nat) (k:Int) (nm:ByteArray) (n:Int) (a:Exs) (at_:Int) (r:Exs),Exs.drop i args= .cons k nm n a at_ r→TE k nm n a∧TWi k nm n a):TE k nm n args∧TWi k nm n args:=by
  simp only[okE,Bool.and_eq_true,Bool.or_eq_true,decide_eq_true_eq,beq_iff_eq]at hk
  obtain⟨⟨⟨⟨⟨⟨h1,h2⟩,h3⟩,h4⟩,h5⟩,h6⟩,h7⟩:=hk
  have hte:TE k nm n args:=by
    have hk:k=1∨k=2∨k=3∨k=4∨5≤k:=by omega
    rcases hk with rfl|rfl|rfl|rfl|h5k
    · exact te_num nm n args
    · exact te_var nm n args
    · obtain⟨k',nm',n',b',at',rfl⟩:=len1 (a:=args) (by simp[tabA,exShp]at h6;omega)
      exact te_load nm n k' nm' n' b' at' (ih 0 _ _ _ _ _ _ rfl).1
    · obtain⟨k',nm',n',b',at',rfl⟩:=len1 (a:=args) (by simp[tabA,exShp]at h6;omega)
      exact te_neg nm n k' nm' n' b' at' (ih 0 _ _ _ _ _ _ rfl).2
    · have hk:k=5∨k=6∨k=7∨k=8∨k=9∨k=10∨k=11:=by omega
      obtain⟨k1,nm1,n1,b1,at1,k2,nm2,n2,b2,at2,rfl⟩:=len2 (a:=args) (by
        have:(tabA exShp k).1 =2:=by rcases hk with rfl|rfl|rfl|rfl|rfl|rfl|rfl<;>rfl
        rw[this]at h6
        omega)
      exact te_two k _ ⟨h5k,h2⟩ rfl nm n k1 nm1 n1 b1 at1 k2 nm2 n2 b2 at2 (ih 0 _ _ _ _ _ _ rfl).2 (ih 1 _ _ _ _ _ _ rfl).2
  exact⟨hte,tw_one ⟨h1,h2⟩ hte⟩
theorem te_all:∀xs:Exs,okX xs=true→∀(i:Nat) (k:Int) (nm:ByteArray) (n:Int) (a:Exs) (at_:Int) (r:Exs),Exs.drop i xs= .cons k nm n a at_ r→TE k nm n a∧TWi k nm n a
  | .nil,_=>fun i _ _ _ _ _ _ hd=>by cases i<;>simp[Exs.drop]at hd
  | .cons k nm n args at_ rest,h=>fun i _ _ _ _ _ _ hd=>by
    cases i with
    |zero=>
      simp only[Exs.drop]at hd
      injection hd with e1 e2 e3 e4 e5 e6
      subst e1 e2 e3 e4 e5 e6
      have h':=h
      simp only[okX,Bool.and_eq_true]at h'
      exact te_one k nm n args at_ (by simp only[okE,Bool.and_eq_true];exact h'.1) (te_all args h'.1.2)
    |succ i=>
      simp only[Exs.drop]at hd
      have h':=h
      simp only[okX,Bool.and_eq_true]at h'
      exact te_all rest h'.2 i _ _ _ _ _ _ hd
end Go.Proofs.YtmopichdofgndaaGreatDoor
