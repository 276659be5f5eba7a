/-
  ref10: cond, bracket, asked: THE CONTRACT. Printed by wip/gen_tp/mkcond.py and wip/gen_in/reg.py.
-/
import Derived.Test.YtmopichdofgndaaGreatDoorTpExpr
set_option linter.unusedVariables false
set_option linter.unusedSimpArgs false
set_option maxHeartbeats 6400000
set_option maxRecDepth 100000
namespace Go.Proofs.YtmopichdofgndaaGreatDoor
open Go.RowKit Go.Shelf

theorem bk_two9 (w:World) (c0 c1:Array Value) (t0 t1:TypeId):Bk ((w.alloc (.cells c0 t0)).alloc (.cells c1 t1)) w.heap.size t0 c0∧Bk ((w.alloc (.cells c0 t0)).alloc (.cells c1 t1)) (w.heap.size+1) t1 c1:=
  ⟨(Bk.new _ _ _).alloc _,Bk.new_at _ _ _ (by simp)⟩
def brT (is:Bool) (tx:Tx):Tx:=if is then [91]::(tx++ [[93]])else tx
theorem arC_br (least:Nat) (p:Nat×Tx):arC least p=brT (decide (p.1 < least)) p.2:=by unfold arC brT;simp
def TC (k:Int) (args:Exs) (of_:Cds):Prop:=∀(at_:Int) (o:ByteArray) (w:World) (S:Nat→Prop) (Z:Prop) (A A':Option Addr) (c c':Nat),TwEnv w→(∀x,S x→x < w.heap.size)→SlR (fun b o=>ExR w S Z args b o) args.len 64 A c→SlR (fun b o=>CdR w S Z of_ b o) of_.len 64 A' c'→
  o.size+sumT (innC k (txX args) (txC of_))≤140737488355328→Calls Tryz.prog 232 #[.string o,.agg #[.int .u8 k,.slice A args.len c,.slice A' of_.len c',.int .i64 at_]] w (TxP (putsA o (innC k (txX args) (txC of_))) w)
def TBk (k:Int) (args:Exs) (of_:Cds):Prop:=∀(at_:Int) (o:ByteArray) (w:World) (S:Nat→Prop) (Z:Prop) (A A':Option Addr) (c c':Nat) (is:Bool),TwEnv w→(∀x,S x→x < w.heap.size)→SlR (fun b o=>ExR w S Z args b o) args.len 64 A c→SlR (fun b o=>CdR w S Z of_ b o) of_.len 64 A' c'→
  o.size+sumT (brT is (innC k (txX args) (txC of_)))≤140737488355328→Calls Tryz.prog 236 #[.string o,.agg #[.int .u8 k,.slice A args.len c,.slice A' of_.len c',.int .i64 at_],.bool is] w (TxP (putsA o (brT is (innC k (txX args) (txC of_)))) w)
theorem tb_one {k:Int} {args:Exs} {of_:Cds} (ih:TC k args of_):TBk k args of_:=by
  intro at_ o w S Z A A' c c' is he hS hx hx' hlen
  have HC:=hdq (fun(o':ByteArray) (W:World) (hf:Fr NoT w W) hl=>ih at_ o' W S Z A A' c c' (he.keep hf.plain) (fun b hb=>ltq (hS b hb) hf.size) (hx.imp fun _ _ hx=>ExR.keep (hf.same fun b hb=>⟨hS b hb,id⟩) hx) (hx'.imp fun _ _ hx=>CdR.keep (hf.same fun b hb=>⟨hS b hb,id⟩) hx) hl)
  obtain⟨tx,htx⟩:=nmq (innC k (txX args) (txC of_))
  rw[←htx]at HC hlen ⊢
  obtain⟨al,hal⟩:=nmq args.len
  obtain⟨ol,hol⟩:=nmq of_.len
  rw[←hal,←hol]at HC ⊢
  obtain⟨w1,hw1⟩:=nmq (w.alloc (.cells #[.int .u8 k,.slice A al c,.slice A' ol c',.int .i64 at_] 160))
  have hf1:Fr NoT w w1:=by rw[hw1];exact(Fr.refl _ _).alloc _
  have hk1:Bk w1 w.heap.size 160 #[.int .u8 k,.slice A al c,.slice A' ol c',.int .i64 at_]:=by rw[hw1];exact Bk.new _ _ _
  have c0:=hk1.cell 0
  have c1:=hk1.cell 1
  have c2:=hk1.cell 2
  have c3:=hk1.cell 3
  have hl1:=hk1.lt
  simp only[getsL]at c0 c1 c2 c3
  have HW1:=hdq hw1
  have HF1:=hdq hf1
  cases is
  · have HR:=hdq (show o.size+sumT tx≤140737488355328 from hlen)
    clear hlen he hS hx hx' ih htx hal hol hw1 hf1 hk1 c0 c1 c2 c3 hl1
    go_enter Tryz.func236,Tryz.ntmps236
    go_wp2_with fail
    rw[←HW1.out]
    refine(HC.out _ _ HF1.out HR.out).mono ?_
    rintro _ w2 ⟨rfl,hf2⟩
    have HF2:=hdq (HF1.out.trans hf2)
    clear hf2
    go_wp2_with fail
    go_ret
    exact⟨rfl,HF2.out⟩
  · have hlen:o.size+sumT ([91]::(tx++ [[93]]))≤140737488355328:=hlen
    have r1:=one_room (t:=⟨#[91]⟩) hlen (by decide)
    have r2:=putsA_room r1.2
    have r3:=one_room (t:=⟨#[93]⟩) r2 (by decide)
    have HR:=hdq (aiq r1 (aiq (show(putA o ⟨#[91]⟩).size +sumT tx≤140737488355328 by have:=r1.2;rw[sumT_app]at this;omega) r3.1))
    clear r1 r2 r3 hlen he hS hx hx' ih htx hal hol hw1 hf1 hk1
    go_enter Tryz.func236,Tryz.ntmps236
    go_wp2_with fail
    rw[←HW1.out]
    refine wp_region_still_tail 3 (by kernel_rfl) (by kernel_rfl) ?_
    simp only[List.take_succ_cons,List.take_zero,List.drop_succ_cons,List.drop_zero]
    repeat still_step
    still_call (tput_q _ _ HR.out.1.1 _)
    repeat still_step
    try refine wpStill_nil ?_
    go_wp2_with fail
    refine(HC.out _ _ (HF1.out.trans (Fr.refl NoT w1).drew) HR.out.2.1).mono ?_
    rintro _ w3 ⟨rfl,hf3⟩
    have HF3:=hdq ((HF1.out.trans (Fr.refl NoT w1).drew).trans hf3)
    clear hf3 c0 c1 c2 c3 hl1
    go_wp2_with fail
    refine(tput_any _ _ HR.out.2.2 _).mono ?_
    rintro _ _ ⟨rfl,rfl⟩
    go_wp2_with fail
    go_ret
    exact⟨by show Ending.returned (.string (putA (putsA (putA o _) tx) _))=Ending.returned (.string (putsA o ([91]::(tx++ [[93]]))));rw[putsA_cons,putsA_app];rfl,HF3.out⟩
theorem tc_yes (args:Exs) (of_:Cds):TC 1 args of_:=by
  intro at_ o w S Z A A' c c' he hS hx hx' hlen
  have hlen:o.size+sumT [[116,114,117,101]]≤140737488355328:=hlen
  have HR:=hdq (one_room (t:=⟨#[116,114,117,101]⟩) hlen (by decide)).1
  obtain⟨al,hal⟩:=nmq args.len
  obtain⟨ol,hol⟩:=nmq of_.len
  rw[←hal,←hol]
  have HF1:=hdq (show Fr NoT w (w.alloc (.cells #[.int .u8 1,.slice A al c,.slice A' ol c',.int .i64 at_] 160))from(Fr.refl _ _).alloc _)
  clear he hS hx hx' hlen hal hol
  go_enter Tryz.func232,Tryz.ntmps232
  go_wp2_with fail
  refine(tput_any _ _ HR.out _).mono ?_
  rintro _ _ ⟨rfl,rfl⟩
  go_wp2_with fail
  go_ret
  exact⟨rfl,HF1.out⟩
theorem tc_no (args:Exs) (of_:Cds):TC 2 args of_:=by
  intro at_ o w S Z A A' c c' he hS hx hx' hlen
  have hlen:o.size+sumT [[102,97,108,115,101]]≤140737488355328:=hlen
  have HR:=hdq (one_room (t:=⟨#[102,97,108,115,101]⟩) hlen (by decide)).1
  obtain⟨al,hal⟩:=nmq args.len
  obtain⟨ol,hol⟩:=nmq of_.len
  rw[←hal,←hol]
  have HF1:=hdq (show Fr NoT w (w.alloc (.cells #[.int .u8 2,.slice A al c,.slice A' ol c',.int .i64 at_] 160))from(Fr.refl _ _).alloc _)
  clear he hS hx hx' hlen hal hol
  go_enter Tryz.func232,Tryz.ntmps232
  go_wp2_with fail
  refine(tput_any _ _ HR.out _).mono ?_
  rintro _ _ ⟨rfl,rfl⟩
  go_wp2_with fail
  go_ret
  exact⟨rfl,HF1.out⟩
theorem tc_not (args:Exs) (k1:Int) (b1:Exs) (o1:Cds) (at1:Int) (ih:TBk k1 b1 o1):TC 9 args (.cons k1 b1 o1 at1 .nil):=by
  intro at_ o w S Z A A' c c' he hS hx hx' hlen
  have hi:innC 9 (txX args) (txC (.cons k1 b1 o1 at1 .nil))= [33]::brT (decide (hgtC k1 < 3)) (innC k1 (txX b1) (txC o1)):=by
    show [33]::arC 3 (hgtC k1,innC k1 (txX b1) (txC o1))=_
    rw[arC_br]
  rw[hi]at hlen ⊢
  obtain⟨tx,htx⟩:=nmq (innC k1 (txX b1) (txC o1))
  obtain⟨is,his⟩:=nmq (decide (hgtC k1 < 3))
  unfold TBk at ih
  have ih:=fun at_ o w S Z A A' c c'=>ih at_ o w S Z A A' c c' is
  rw[←htx]at ih hlen ⊢
  rw[←his]at hlen ⊢
  have r1:=one_room (t:=⟨#[33]⟩) hlen (by decide)
  have HR:=hdq r1
  obtain⟨al,hal⟩:=nmq args.len
  obtain⟨ol,hol⟩:=nmq 1
  obtain⟨w1,hw1⟩:=nmq (w.alloc (.cells #[.int .u8 9,.slice A al c,.slice A' 1 c',.int .i64 at_] 160))
  have hf1:Fr NoT w w1:=by rw[hw1];exact(Fr.refl _ _).alloc _
  have hk1:Bk w1 w.heap.size 160 #[.int .u8 9,.slice A al c,.slice A' 1 c',.int .i64 at_]:=by rw[hw1];exact Bk.new _ _ _
  obtain⟨bA,oA,rfl,hat⟩:=hx'.2.2 (Nat.succ_pos _)
  have hat1:=CdR.keep (hf1.same fun b hb=>⟨hS b hb,id⟩) hat
  obtain⟨A1,q1,A2,q2,s1,s2,hbS,c0,c1,c2,c3⟩:=hat1.first
  have hlA:bA < w1.heap.size:=ltq (hS _ hbS) hf1.size
  have hfd:Fr NoT w1 w1.drew:=(Fr.refl _ _).drew
  have HC:=hdq (fun(o':ByteArray) hl=>ih at1 o' w1.drew S Z A1 A2 q1 q2 (he.keep (hf1.trans hfd).plain) (fun b hb=>ltq (hS b hb) (hf1.trans hfd).size) (s1.imp fun _ _ hx=>ExR.keep (hfd.same fun b hb=>⟨ltq (hS b hb) hf1.size,id⟩) hx) (s2.imp fun _ _ hx=>CdR.keep (hfd.same fun b hb=>⟨ltq (hS b hb) hf1.size,id⟩) hx) hl)
  have x2:=hk1.cell 2
  have xl:=hk1.lt
  simp only[getsL]at x2
  have HW1:=hdq hw1
  have HF1:=hdq (hf1.trans hfd)
  have hways:(k1=10∧is=true)∨(k1=11∧is=true)∨((k1==10)=false∧(k1==11)=false∧is=false):=by
    by_cases h10:k1=10
    · subst h10;exact .inl ⟨rfl,by rw[his];rfl⟩
    · by_cases h11:k1=11
      · subst h11;exact .inr (.inl ⟨rfl,by rw[his];rfl⟩)
      · exact .inr (.inr ⟨by simpa using h10,by simpa using h11,by rw[his];unfold hgtC;rw[if_neg h11,if_neg h10];rfl⟩)
  rw[←hal]
  clear he hS hx hx' hlen hi htx r1 hat hat1 s1 s2 hbS hw1 hf1 hk1 hfd ih his hal hol
  show Calls _ _ #[.string o,.agg #[.int .u8 9,.slice A al c,.slice (some ⟨bA,oA,none⟩) 1 c',.int .i64 at_]] _ _
  rcases hways with⟨rfl,rfl⟩|⟨rfl,rfl⟩|⟨k10,k11,rfl⟩
  all_goals
    go_enter Tryz.func232,Tryz.ntmps232
    rw[HW1.out]at c0 c1 c2 c3 hlA
    go_wp2_with fail
    rw[←HW1.out]at c0 c1 c2 c3 hlA
    rw[←HW1.out]
    refine wp_region_still_tail 12 (by kernel_rfl) (by kernel_rfl) ?_
    simp only[List.take_succ_cons,List.take_zero,List.drop_succ_cons,List.drop_zero]
    repeat still_step
    still_call (tput_q _ _ HR.out.1 _)
    repeat still_step
    try refine wpStill_nil ?_
    go_wp2_with fail
    refine(HC.out _ HR.out.2).mono ?_
    rintro _ w2 ⟨rfl,hf2⟩
    have HF2:=hdq (HF1.out.trans hf2)
    clear hf2 c0 c1 c2 c3 x2 xl hlA
    go_wp2_with fail
    go_ret
    exact⟨by rw[putsA_cons];rfl,HF2.out⟩
theorem tc_and (args:Exs) (k1:Int) (b1:Exs) (o1:Cds) (at1:Int) (k2:Int) (b2:Exs) (o2:Cds) (at2:Int) (ih:TBk k1 b1 o1) (ih2:TBk k2 b2 o2):TC 10 args (.cons k1 b1 o1 at1 (.cons k2 b2 o2 at2 .nil)):=by
  intro at_ o w S Z A A' c c' he hS hx hx' hlen
  have hi:innC 10 (txX args) (txC (.cons k1 b1 o1 at1 (.cons k2 b2 o2 at2 .nil)))=brT (decide (hgtC k1 < 2)) (innC k1 (txX b1) (txC o1))++ [38,38]::brT (decide (hgtC k2 < 3)) (innC k2 (txX b2) (txC o2)):=by
    show arC 2 (hgtC k1,innC k1 (txX b1) (txC o1))++ [38,38]::arC 3 (hgtC k2,innC k2 (txX b2) (txC o2))=_
    rw[arC_br,arC_br]
  rw[hi]at hlen ⊢
  obtain⟨i1,hi1⟩:=nmq (decide (hgtC k1 < 2))
  obtain⟨i2,hi2⟩:=nmq (decide (hgtC k2 < 3))
  unfold TBk at ih ih2
  have ih:=fun at_ o w S Z A A' c c'=>ih at_ o w S Z A A' c c' i1
  have ih2:=fun at_ o w S Z A A' c c'=>ih2 at_ o w S Z A A' c c' i2
  rw[←hi1,←hi2]at hlen ⊢
  obtain⟨tx,htx⟩:=nmq (brT i1 (innC k1 (txX b1) (txC o1)))
  obtain⟨ty,hty⟩:=nmq (brT i2 (innC k2 (txX b2) (txC o2)))
  rw[←htx]at ih hlen ⊢
  rw[←hty]at ih2 hlen ⊢
  have r1:=putsA_room hlen
  have r2:=one_room (t:=⟨#[38,38]⟩) r1 (by decide)
  have HR:=hdq (aiq (show o.size+sumT tx≤140737488355328 by rw[sumT_app]at hlen;omega) r2)
  obtain⟨al,hal⟩:=nmq args.len
  obtain⟨w1,hw1⟩:=nmq (w.alloc (.cells #[.int .u8 10,.slice A al c,.slice A' 2 c',.int .i64 at_] 160))
  have hf1:Fr NoT w w1:=by rw[hw1];exact(Fr.refl _ _).alloc _
  have hk1:Bk w1 w.heap.size 160 #[.int .u8 10,.slice A al c,.slice A' 2 c',.int .i64 at_]:=by rw[hw1];exact Bk.new _ _ _
  obtain⟨bA,oA,rfl,hat⟩:=hx'.2.2 (Nat.succ_pos _)
  have hat1:=CdR.keep (hf1.same fun b hb=>⟨hS b hb,id⟩) hat
  obtain⟨A1,q1,A2,q2,s1,s2,hbS,c0,c1,c2,c3⟩:=hat1.first
  obtain⟨B1,p1,B2,p2,u1,u2,_,d0,d1,d2,d3⟩:=CdR.first hat1.second
  have hlA:bA < w1.heap.size:=ltq (hS _ hbS) hf1.size
  have HC:=hdq (fun(o':ByteArray) (W:World) (hf:Fr NoT w1 W) hl=>ih at1 o' W S Z A1 A2 q1 q2 (he.keep (hf1.trans hf).plain) (fun b hb=>ltq (hS b hb) (hf1.trans hf).size) (s1.imp fun _ _ hx=>ExR.keep (hf.same fun b hb=>⟨ltq (hS b hb) hf1.size,id⟩) hx) (s2.imp fun _ _ hx=>CdR.keep (hf.same fun b hb=>⟨ltq (hS b hb) hf1.size,id⟩) hx) hl)
  have HC2:=hdq (fun(o':ByteArray) (W:World) (hf:Fr NoT w1 W) hl=>ih2 at2 o' W S Z B1 B2 p1 p2 (he.keep (hf1.trans hf).plain) (fun b hb=>ltq (hS b hb) (hf1.trans hf).size) (u1.imp fun _ _ hx=>ExR.keep (hf.same fun b hb=>⟨ltq (hS b hb) hf1.size,id⟩) hx) (u2.imp fun _ _ hx=>CdR.keep (hf.same fun b hb=>⟨ltq (hS b hb) hf1.size,id⟩) hx) hl)
  have x2:=hk1.cell 2
  have xl:=hk1.lt
  simp only[getsL]at x2
  have HW1:=hdq hw1
  have HF1:=hdq hf1
  have hw_1:(k1=11∧i1=true)∨((k1==11)=false∧i1=false):=by
    by_cases h11:k1=11
    · subst h11;exact .inl ⟨rfl,by rw[hi1];rfl⟩
    · refine .inr ⟨by simpa using h11,?_⟩
      rw[hi1]
      unfold hgtC
      rw[if_neg h11]
      split<;>rfl
  have hw_2:(k2=10∧i2=true)∨(k2=11∧i2=true)∨((k2==10)=false∧(k2==11)=false∧i2=false):=by
    by_cases h10:k2=10
    · subst h10;exact .inl ⟨rfl,by rw[hi2];rfl⟩
    · by_cases h11:k2=11
      · subst h11;exact .inr (.inl ⟨rfl,by rw[hi2];rfl⟩)
      · exact .inr (.inr ⟨by simpa using h10,by simpa using h11,by rw[hi2];unfold hgtC;rw[if_neg h11,if_neg h10];rfl⟩)
  obtain⟨l1,hl1⟩:=nmq b1.len
  obtain⟨l2,hl2⟩:=nmq o1.len
  obtain⟨l3,hl3⟩:=nmq b2.len
  obtain⟨l4,hl4⟩:=nmq o2.len
  rw[←hl1]at c1 HC
  rw[←hl2]at c2 HC
  rw[←hl3]at d1 HC2
  rw[←hl4]at d2 HC2
  have e10:in8 (10:Int):=by unfold in8;decide
  rw[←hal]
  clear he hS hx hx' hlen hi htx hty r1 r2 hat hat1 s1 s2 u1 u2 hbS hw1 hf1 hk1 ih ih2 hi1 hi2 hal hl1 hl2 hl3 hl4 e10
  show Calls _ _ #[.string o,.agg #[.int .u8 10,.slice A al c,.slice (some ⟨bA,oA,none⟩) 2 c',.int .i64 at_]] _ _
  go_enter Tryz.func232,Tryz.ntmps232
  go_wp2_with fail
  rw[←HW1.out]
  go_cut [6,7] (fun s6 s7 wx=>∃p q,s6= .pointer (some ⟨p,0,none⟩)∧s7= .pointer (some ⟨q,0,none⟩)∧Hid (Bk wx p 160 #[.int .u8 k1,.slice A1 l1 q1,.slice A2 l2 q2,.int .i64 at1])∧Hid (Bk wx q 160 #[.int .u8 k2,.slice B1 l3 p1,.slice B2 l4 p2,.int .i64 at2])∧Hid (Fr NoT w1 wx))
  case first=>
    go_region
    all_goals
      go_wp2_with fail
      go_meet
      have hb:=bk_two9 w1 #[.int .u8 k1,.slice A1 l1 q1,.slice A2 l2 q2,.int .i64 at1] #[.int .u8 k2,.slice B1 l3 p1,.slice B2 l4 p2,.int .i64 at2] 160 160
      have hb':=bk_two9 w1 #[.int .u8 k2,.slice B1 l3 p1,.slice B2 l4 p2,.int .i64 at2] #[.int .u8 k1,.slice A1 l1 q1,.slice A2 l2 q2,.int .i64 at1] 160 160
      have h0:=(hb.1.fr0 ((Fr.refl _ _).drew))
      have h1:=(hb.2.fr0 ((Fr.refl _ _).drew))
      have h0':=(hb'.1.fr0 ((Fr.refl _ _).drew))
      have h1':=(hb'.2.fr0 ((Fr.refl _ _).drew))
      have hf:=(((Fr.refl NoT w1).alloc (.cells #[.int .u8 k1,.slice A1 l1 q1,.slice A2 l2 q2,.int .i64 at1] 160)).alloc (.cells #[.int .u8 k2,.slice B1 l3 p1,.slice B2 l4 p2,.int .i64 at2] 160)).drew
      have hf':=(((Fr.refl NoT w1).alloc (.cells #[.int .u8 k2,.slice B1 l3 p1,.slice B2 l4 p2,.int .i64 at2] 160)).alloc (.cells #[.int .u8 k1,.slice A1 l1 q1,.slice A2 l2 q2,.int .i64 at1] 160)).drew
      first
        |exact⟨_,_,rfl,rfl,hdq h0,hdq h1,hdq hf⟩
        |exact⟨_,_,rfl,rfl,hdq h1',hdq h0',hdq hf'⟩
  case rest=>
    obtain⟨p,q,rfl,rfl,hp,hq,hfw⟩:=hcut
    have HP:=hp
    have HQ:=hq
    have HFW:=hfw
    have y0:=hp.out.cell 0
    have y1:=hp.out.cell 1
    have y2:=hp.out.cell 2
    have y3:=hp.out.cell 3
    have yl:=hp.out.lt
    simp only[getsL]at y0 y1 y2 y3
    clear hp hq hfw c0 c1 c2 c3 d0 d1 d2 d3 x2 xl hlA
    rcases hw_1 with⟨rfl,rfl⟩|⟨k11,rfl⟩
    all_goals
      go_wp2_with fail
      refine(HC.out _ _ HFW.out HR.out.1).mono ?_
      rintro _ w3 ⟨rfl,hf3⟩
      have HF3:=hdq (HFW.out.trans hf3)
      have hq3:=HQ.out.fr0 hf3
      have z0:=hq3.cell 0
      have z1:=hq3.cell 1
      have z2:=hq3.cell 2
      have z3:=hq3.cell 3
      have zl:=hq3.lt
      simp only[getsL]at z0 z1 z2 z3
      clear hf3 hq3 y0 y1 y2 y3 yl
      go_wp2_with fail
      refine(tput_any _ _ HR.out.2.1 _).mono ?_
      rintro _ _ ⟨rfl,rfl⟩
      rcases hw_2 with⟨rfl,rfl⟩|⟨rfl,rfl⟩|⟨k20,k21,rfl⟩
      all_goals
        go_wp2_with fail
        refine(HC2.out _ _ HF3.out HR.out.2.2).mono ?_
        rintro _ w4 ⟨rfl,hf4⟩
        have HF4:=hdq (HF3.out.trans hf4)
        clear hf4 z0 z1 z2 z3 zl
        go_wp2_with fail
        go_ret
        exact⟨by rw[putsA_app,putsA_cons];rfl,HF1.out.trans HF4.out⟩
theorem tc_or (args:Exs) (k1:Int) (b1:Exs) (o1:Cds) (at1:Int) (k2:Int) (b2:Exs) (o2:Cds) (at2:Int) (ih:TC k1 b1 o1) (ih2:TBk k2 b2 o2):TC 11 args (.cons k1 b1 o1 at1 (.cons k2 b2 o2 at2 .nil)):=by
  intro at_ o w S Z A A' c c' he hS hx hx' hlen
  have hi:innC 11 (txX args) (txC (.cons k1 b1 o1 at1 (.cons k2 b2 o2 at2 .nil)))=innC k1 (txX b1) (txC o1)++ [124,124]::brT (decide (hgtC k2 < 2)) (innC k2 (txX b2) (txC o2)):=by
    show arC 1 (hgtC k1,innC k1 (txX b1) (txC o1))++ [124,124]::arC 2 (hgtC k2,innC k2 (txX b2) (txC o2))=_
    have h1 : ¬ hgtC k1 < 1 := by unfold hgtC; repeat' split
                                  all_goals omega
    rw[show arC 1 (hgtC k1,innC k1 (txX b1) (txC o1))=innC k1 (txX b1) (txC o1)from by unfold arC;rw[if_neg h1],arC_br]
  rw[hi]at hlen ⊢
  obtain⟨i2,hi2⟩:=nmq (decide (hgtC k2 < 2))
  unfold TBk at ih2
  unfold TC at ih
  have ih2:=fun at_ o w S Z A A' c c'=>ih2 at_ o w S Z A A' c c' i2
  rw[←hi2]at hlen ⊢
  obtain⟨tx,htx⟩:=nmq (innC k1 (txX b1) (txC o1))
  obtain⟨ty,hty⟩:=nmq (brT i2 (innC k2 (txX b2) (txC o2)))
  rw[←htx]at ih hlen ⊢
  rw[←hty]at ih2 hlen ⊢
  have r1:=putsA_room hlen
  have r2:=one_room (t:=⟨#[124,124]⟩) r1 (by decide)
  have HR:=hdq (aiq (show o.size+sumT tx≤140737488355328 by rw[sumT_app]at hlen;omega) r2)
  obtain⟨al,hal⟩:=nmq args.len
  obtain⟨w1,hw1⟩:=nmq (w.alloc (.cells #[.int .u8 11,.slice A al c,.slice A' 2 c',.int .i64 at_] 160))
  have hf1:Fr NoT w w1:=by rw[hw1];exact(Fr.refl _ _).alloc _
  have hk1:Bk w1 w.heap.size 160 #[.int .u8 11,.slice A al c,.slice A' 2 c',.int .i64 at_]:=by rw[hw1];exact Bk.new _ _ _
  obtain⟨bA,oA,rfl,hat⟩:=hx'.2.2 (Nat.succ_pos _)
  have hat1:=CdR.keep (hf1.same fun b hb=>⟨hS b hb,id⟩) hat
  obtain⟨A1,q1,A2,q2,s1,s2,hbS,c0,c1,c2,c3⟩:=hat1.first
  obtain⟨B1,p1,B2,p2,u1,u2,_,d0,d1,d2,d3⟩:=CdR.first hat1.second
  have hlA:bA < w1.heap.size:=ltq (hS _ hbS) hf1.size
  have HC:=hdq (fun(o':ByteArray) (W:World) (hf:Fr NoT w1 W) hl=>ih at1 o' W S Z A1 A2 q1 q2 (he.keep (hf1.trans hf).plain) (fun b hb=>ltq (hS b hb) (hf1.trans hf).size) (s1.imp fun _ _ hx=>ExR.keep (hf.same fun b hb=>⟨ltq (hS b hb) hf1.size,id⟩) hx) (s2.imp fun _ _ hx=>CdR.keep (hf.same fun b hb=>⟨ltq (hS b hb) hf1.size,id⟩) hx) hl)
  have HC2:=hdq (fun(o':ByteArray) (W:World) (hf:Fr NoT w1 W) hl=>ih2 at2 o' W S Z B1 B2 p1 p2 (he.keep (hf1.trans hf).plain) (fun b hb=>ltq (hS b hb) (hf1.trans hf).size) (u1.imp fun _ _ hx=>ExR.keep (hf.same fun b hb=>⟨ltq (hS b hb) hf1.size,id⟩) hx) (u2.imp fun _ _ hx=>CdR.keep (hf.same fun b hb=>⟨ltq (hS b hb) hf1.size,id⟩) hx) hl)
  have x2:=hk1.cell 2
  have xl:=hk1.lt
  simp only[getsL]at x2
  have HW1:=hdq hw1
  have HF1:=hdq hf1
  have HK1:=hdq hk1
  have hw_2:(k2=11∧i2=true)∨((k2==11)=false∧i2=false):=by
    by_cases h11:k2=11
    · subst h11;exact .inl ⟨rfl,by rw[hi2];rfl⟩
    · refine .inr ⟨by simpa using h11,?_⟩
      rw[hi2]
      unfold hgtC
      rw[if_neg h11]
      split<;>rfl
  obtain⟨l1,hl1⟩:=nmq b1.len
  obtain⟨l2,hl2⟩:=nmq o1.len
  obtain⟨l3,hl3⟩:=nmq b2.len
  obtain⟨l4,hl4⟩:=nmq o2.len
  rw[←hl1]at c1 HC
  rw[←hl2]at c2 HC
  rw[←hl3]at d1 HC2
  rw[←hl4]at d2 HC2
  have HD:=hdq (show ∀W,Fr NoT w1 W→bA < W.heap.size∧W.cell? ⟨bA,oA+4,none⟩=some (.int .u8 k2)∧W.cell? ⟨bA,oA+4+1,none⟩=some (.slice B1 l3 p1)∧W.cell? ⟨bA,oA+4+2,none⟩=some (.slice B2 l4 p2)∧W.cell? ⟨bA,oA+4+3,none⟩=some (.int .i64 at2)from fun W hf=>
    ⟨ltq hlA hf.size,(hf.cell hlA id).trans d0,(hf.cell hlA id).trans d1,(hf.cell hlA id).trans d2,(hf.cell hlA id).trans d3⟩)
  rw[←hal]
  clear he hS hx hx' hlen hi htx hty r1 r2 hat hat1 s1 s2 u1 u2 hbS hw1 hf1 hk1 ih ih2 hi2 hal hl1 hl2 hl3 hl4 d0 d1 d2 d3
  show Calls _ _ #[.string o,.agg #[.int .u8 11,.slice A al c,.slice (some ⟨bA,oA,none⟩) 2 c',.int .i64 at_]] _ _
  go_enter Tryz.func232,Tryz.ntmps232
  rw[HW1.out]at c0 c1 c2 c3 hlA
  go_wp2_with fail
  rw[←HW1.out]
  refine(HC.out _ _ (Fr.refl _ _) HR.out.1).mono ?_
  rintro _ w2 ⟨rfl,hf2⟩
  obtain⟨hl2,d0,d1,d2,d3⟩:=HD.out _ hf2
  have hk2:=HK1.out.fr0 hf2
  have x2':=hk2.cell 2
  have xl':=hk2.lt
  simp only[getsL]at x2'
  have HF2:=hdq (hf2.trans (Fr.refl NoT w2).drew)
  clear hf2 hk2 c0 c1 c2 c3 x2 xl hlA
  go_wp2_with fail
  refine(tput_any _ _ HR.out.2.1 _).mono ?_
  rintro _ _ ⟨rfl,rfl⟩
  rcases hw_2 with⟨rfl,rfl⟩|⟨k21,rfl⟩
  all_goals
    go_wp2_with fail
    refine wp_region_still_tail 11 (by kernel_rfl) (by kernel_rfl) ?_
    simp only[List.take_succ_cons,List.take_zero,List.drop_succ_cons,List.drop_zero]
    repeat still_step
    try refine wpStill_nil ?_
    go_wp2_with fail
    refine(HC2.out _ _ HF2.out HR.out.2.2).mono ?_
    rintro _ w4 ⟨rfl,hf4⟩
    have HF4:=hdq (HF2.out.trans hf4)
    clear hf4 d0 d1 d2 d3 hl2 x2' xl'
    go_wp2_with fail
    go_ret
    exact⟨by rw[putsA_app,putsA_cons];rfl,HF1.out.trans HF4.out⟩
def TcS (g:Nat) (k:Int) (sl:Value) (h j:Nat) (sg:ByteArray) (b o:Nat) (a0:Int) (a1:ByteArray) (a2:Int) (a3:Value) (a4:Int) (b0:Int) (b1:ByteArray) (b2:Int) (b3:Value) (b4:Int) (W:World):Prop:=
  W.cell? ⟨g,0,none⟩=some (.int .u8 k)∧W.cell? ⟨g,1,none⟩=some sl∧W.cell? ⟨h,j,none⟩=some (.string sg)∧
  W.cell? ⟨b,o,none⟩=some (.int .u8 a0)∧W.cell? ⟨b,o+1,none⟩=some (.string a1)∧W.cell? ⟨b,o+2,none⟩=some (.int .i64 a2)∧W.cell? ⟨b,o+3,none⟩=some a3∧W.cell? ⟨b,o+4,none⟩=some (.int .i64 a4)∧
  W.cell? ⟨b,o+5,none⟩=some (.int .u8 b0)∧W.cell? ⟨b,o+5+1,none⟩=some (.string b1)∧W.cell? ⟨b,o+5+2,none⟩=some (.int .i64 b2)∧W.cell? ⟨b,o+5+3,none⟩=some b3∧W.cell? ⟨b,o+5+4,none⟩=some (.int .i64 b4)
def sgsV:Array Value:= #[.string ⟨#[60]⟩,.string ⟨#[60,61]⟩,.string ⟨#[62]⟩,.string ⟨#[62,61]⟩,.string ⟨#[61,61]⟩,.string ⟨#[33,61]⟩]
theorem tc_cmp (k:Int) (sg:ByteArray) (j:Nat) (hkj:(k=3∧sg=⟨#[60]⟩∧j=0)∨(k=4∧sg=⟨#[60,61]⟩∧j=1)∨(k=5∧sg=⟨#[62]⟩∧j=2)∨(k=6∧sg=⟨#[62,61]⟩∧j=3)∨(k=7∧sg=⟨#[61,61]⟩∧j=4)∨(k=8∧sg=⟨#[33,61]⟩∧j=5))
    (of_:Cds) (k1:Int) (nm1:ByteArray) (n1:Int) (b1:Exs) (at1:Int) (k2:Int) (nm2:ByteArray) (n2:Int) (b2:Exs) (at2:Int) (ih:TE k1 nm1 n1 b1) (ih2:TE k2 nm2 n2 b2):TC k (.cons k1 nm1 n1 b1 at1 (.cons k2 nm2 n2 b2 at2 .nil)) of_:=by
  intro at_ o w S Z A A' c c' he hS hx hx' hlen
  have hi:innC k (txX (.cons k1 nm1 n1 b1 at1 (.cons k2 nm2 n2 b2 at2 .nil))) (txC of_)=innE k1 nm1 n1 (txX b1)++sg.data.toList::innE k2 nm2 n2 (txX b2):=by
    rcases hkj with⟨rfl,rfl,_⟩|⟨rfl,rfl,_⟩|⟨rfl,rfl,_⟩|⟨rfl,rfl,_⟩|⟨rfl,rfl,_⟩|⟨rfl,rfl,_⟩
    all_goals
      show arE 0 (lvlE k1,innE k1 nm1 n1 (txX b1))++_::arE 0 (lvlE k2,innE k2 nm2 n2 (txX b2))=_
      rw[tE0,tE0]
      rfl
  have hsj:sgsV[j]?=some (.string sg):=by rcases hkj with⟨_,rfl,rfl⟩|⟨_,rfl,rfl⟩|⟨_,rfl,rfl⟩|⟨_,rfl,rfl⟩|⟨_,rfl,rfl⟩|⟨_,rfl,rfl⟩<;>rfl
  rw[hi]at hlen ⊢
  obtain⟨tx,htx⟩:=nmq (innE k1 nm1 n1 (txX b1))
  obtain⟨ty,hty⟩:=nmq (innE k2 nm2 n2 (txX b2))
  unfold TE at ih ih2
  rw[←htx]at ih hlen ⊢
  rw[←hty]at ih2 hlen ⊢
  have r1:=putsA_room hlen
  have r2:=one_room (t:=sg) r1 (by decide)
  have HR:=hdq (aiq (show o.size+sumT tx≤140737488355328 by rw[sumT_app]at hlen;omega) r2)
  obtain⟨ol,hol⟩:=nmq of_.len
  obtain⟨w1,hw1⟩:=nmq (w.alloc (.cells #[.int .u8 k,.slice A 2 c,.slice A' ol c',.int .i64 at_] 160))
  have hf1:Fr NoT w w1:=by rw[hw1];exact(Fr.refl _ _).alloc _
  have hk1:Bk w1 w.heap.size 160 #[.int .u8 k,.slice A 2 c,.slice A' ol c',.int .i64 at_]:=by rw[hw1];exact Bk.new _ _ _
  obtain⟨w2,hw2⟩:=nmq (w1.alloc (.cells sgsV 9))
  have hf2:Fr NoT w1 w2:=by rw[hw2];exact(Fr.refl _ _).alloc _
  have hk2:Bk w2 w1.heap.size 9 sgsV:=by rw[hw2];exact Bk.new _ _ _
  obtain⟨bA,oA,rfl,hat⟩:=hx.2.2 (Nat.succ_pos _)
  obtain⟨A1,q1,s1,hn1,hbS,c0,c1,c2,c3,c4⟩:=hat.first9
  obtain⟨A2,q2,s2,hn2,_,d0,d1,d2,d3,d4⟩:=ExR.first9 hat.2.2
  have hlA:bA < w.heap.size:=hS _ hbS
  have HS:=hdq (show ∀W,Fr NoT w2 W→TcS w.heap.size k (.slice (some ⟨bA,oA,none⟩) 2 c) w1.heap.size j sg bA oA k1 nm1 n1 (.slice A1 b1.len q1) at1 k2 nm2 n2 (.slice A2 b2.len q2) at2 W from fun W hf=>
    have hF:=(hf1.trans hf2).trans hf
    have hk:=hk1.fr0 (hf2.trans hf)
    have hk':=hk2.fr0 hf
    have hc:∀j u,w.cell? ⟨bA,j,none⟩=some u→W.cell? ⟨bA,j,none⟩=some u:=fun j u h=>(hF.cell (p:=⟨bA,j,none⟩) hlA id).trans h
    ⟨hk.cell 0,hk.cell 1,(hk'.cell j).trans hsj,hc _ _ c0,hc _ _ c1,hc _ _ c2,hc _ _ c3,hc _ _ c4,hc _ _ d0,hc _ _ d1,hc _ _ d2,hc _ _ d3,hc _ _ d4⟩)
  have HC:=hdq (fun(o':ByteArray) (W:World) (hf:Fr NoT w2 W) hl=>ih at1 o' W S Z A1 q1 (he.keep ((hf1.trans hf2).trans hf).plain) (fun b hb=>ltq (hS b hb) ((hf1.trans hf2).trans hf).size) (s1.imp fun _ _ hx=>ExR.keep (((hf1.trans hf2).trans hf).same fun b hb=>⟨hS b hb,id⟩) hx) hn1 hl)
  have HC2:=hdq (fun(o':ByteArray) (W:World) (hf:Fr NoT w2 W) hl=>ih2 at2 o' W S Z A2 q2 (he.keep ((hf1.trans hf2).trans hf).plain) (fun b hb=>ltq (hS b hb) ((hf1.trans hf2).trans hf).size) (s2.imp fun _ _ hx=>ExR.keep (((hf1.trans hf2).trans hf).same fun b hb=>⟨hS b hb,id⟩) hx) hn2 hl)
  obtain⟨l1,hl1⟩:=nmq b1.len
  obtain⟨l2,hl2⟩:=nmq b2.len
  rw[←hl1]at HC HS
  rw[←hl2]at HC2 HS
  rw[←hol]
  have HW1:=hdq hw1
  have HW2:=hdq hw2
  have HF1:=hdq (hf1.trans hf2)
  have wr0:IntKind.u8.wrap 0=0:=by decide
  have wr1:IntKind.u8.wrap 1=1:=by decide
  have wr2:IntKind.u8.wrap 2=2:=by decide
  have wr3:IntKind.u8.wrap 3=3:=by decide
  have wr4:IntKind.u8.wrap 4=4:=by decide
  have wr5:IntKind.u8.wrap 5=5:=by decide
  have HZ:=hdq (show w1.heap.size=w.heap.size+1 from by rw[hw1];simp)
  unfold sgsV at hw2
  rw[hw1]at hw2
  clear he hS hx hx' hlen hi htx hty r1 r2 hat s1 s2 hbS hw1 hf1 hk1 hf2 hk2 hn1 hn2 ih ih2 hlA c0 c1 c2 c3 c4 d0 d1 d2 d3 d4 hsj hol hl1 hl2
  have HWW:=hdq hw2
  clear hw2
  show Calls _ _ #[.string o,.agg #[.int .u8 k,.slice (some ⟨bA,oA,none⟩) 2 c,.slice A' ol c',.int .i64 at_]] _ _
  rcases hkj with⟨rfl,rfl,rfl⟩|⟨rfl,rfl,rfl⟩|⟨rfl,rfl,rfl⟩|⟨rfl,rfl,rfl⟩|⟨rfl,rfl,rfl⟩|⟨rfl,rfl,rfl⟩
  all_goals
    go_enter Tryz.func232,Tryz.ntmps232
    go_wp2_with fail
    rw[←HWW.out]
    have hSx:=HS.out _ (Fr.refl NoT w2).drew
    rw[HZ.out]at hSx
    refine wp_region_E (TcS w.heap.size _ (.slice (some ⟨bA,oA,none⟩) 2 c) (w.heap.size+1) _ _ bA oA k1 nm1 n1 (.slice A1 l1 q1) at1 k2 nm2 n2 (.slice A2 l2 q2) at2) (fun _=>true) (by kernel_rfl) hSx (fun hHeld=>?_)
    refine wpE_pu 0 ?_
    try simp only[putsL]
    refine wpE_pu 1 ?_
    try simp only[putsL]
    refine wpE_take 2 (v:=?_) rfl (by kernel_rfl) (fun _ _ _ h=>h) hHeld (by rfl) ?_ ?_;rotate_left
    · intro wz hSz;(try dsimp only[TcS]at hSz);go_simp;try with_reducible rfl
    try simp only[putsL]
    refine wpE_pu 3 ?_
    try simp only[putsL]
    refine wpE_take 4 (v:=?_) rfl (by kernel_rfl) (fun _ _ _ h=>h) hHeld (by rfl) ?_ ?_;rotate_left
    · intro wz hSz;(try dsimp only[TcS]at hSz);go_simp;try with_reducible rfl
    try simp only[putsL]
    refine wpE_pu 6 ?_
    try simp only[putsL]
    refine wpE_pu 7 ?_
    try simp only[putsL]
    refine wpE_take 8 (v:=?_) rfl (by kernel_rfl) (fun _ _ _ h=>h) hHeld (by rfl) ?_ ?_;rotate_left
    · intro wz hSz;(try dsimp only[TcS]at hSz);go_simp;try with_reducible rfl
    try simp only[putsL]
    refine wpE_pu 9 ?_
    try simp only[putsL]
    refine wpE_pu 10 ?_
    try simp only[putsL]
    refine wpE_take 11 (v:=?_) rfl (by kernel_rfl) (fun _ _ _ h=>h) hHeld (by rfl) ?_ ?_;rotate_left
    · intro wz hSz;(try dsimp only[TcS]at hSz);go_simp;try with_reducible rfl
    try simp only[putsL]
    refine wpE_pu 13 ?_
    try simp only[putsL]
    refine wpE_take 14 (v:=?_) rfl (by kernel_rfl) (fun _ _ _ h=>h) hHeld (by rfl) ?_ ?_;rotate_left
    · intro wz hSz;(try dsimp only[TcS]at hSz);go_simp;try with_reducible rfl
    try simp only[putsL]
    refine wpE_pu 15 ?_
    try simp only[putsL]
    refine wpE_take 16 (v:=?_) rfl (by kernel_rfl) (fun _ _ _ h=>h) hHeld (by rfl) ?_ ?_;rotate_left
    · intro wz hSz;(try dsimp only[TcS]at hSz);go_simp;try with_reducible rfl
    try simp only[putsL]
    refine wpE_next 5 rfl (by kernel_rfl) (fun KK hK=>?_)
    go_simp
    go_at_call 206
    refine(HC.out _ _ ((Fr.refl NoT w2).drew) HR.out.1).mono ?_
    rintro _ w3 ⟨rfl,hf3⟩
    have HF3:=hdq (((Fr.refl NoT w2).drew).trans hf3)
    have hS3:=HS.out _ HF3.out
    rw[HZ.out]at hS3
    try dsimp only
    refine hK _ _ (fun _ _=>hS3) ?_
    clear hK KK hf3
    try simp only[putsL]
    refine wpE_next 12 rfl (by kernel_rfl) (fun KK hK=>?_)
    go_simp
    go_at_call 107
    refine(tput_any _ _ HR.out.2.1 _).mono ?_
    rintro _ _ ⟨rfl,rfl⟩
    try dsimp only
    refine hK _ _ (fun _ _=>hS3) ?_
    clear hK KK
    try simp only[putsL]
    refine wpE_next 17 rfl (by kernel_rfl) (fun KK hK=>?_)
    go_simp
    go_at_call 206
    refine(HC2.out _ _ HF3.out HR.out.2.2).mono ?_
    rintro _ w5 ⟨rfl,hf5⟩
    have HF5:=hdq (HF3.out.trans hf5)
    have hS5:=HS.out _ HF5.out
    rw[HZ.out]at hS5
    try dsimp only
    refine hK _ _ (fun _ _=>hS5) ?_
    clear hK KK hf5
    try simp only[putsL]
    refine wpE_pu 18 ?_
    try simp only[putsL]
    refine wpE_done (by kernel_rfl) ?_
    go_wp2_with fail
    go_ret
    exact⟨by rw[putsA_app,putsA_cons];rfl,HF1.out.trans HF5.out⟩
theorem tc_one (k:Int) (args:Exs) (of_:Cds) (at_:Int) (hk:okD k args of_ at_=true) (ih:∀(i:Nat) (k:Int) (b:Exs) (o:Cds) (at_:Int) (r:Cds),Cds.drop i of_= .cons k b o at_ r→TC k b o∧TBk k b o):TC k args of_∧TBk k args of_:=by
  simp only[okD,Bool.and_eq_true,decide_eq_true_eq,beq_iff_eq]at hk
  obtain⟨⟨⟨⟨⟨h1,h2⟩,h3⟩,h4⟩,h5⟩,h6⟩:=hk
  have htc:TC k args of_:=by
    have hk:k=1∨k=2∨k=9∨k=10∨k=11∨(3≤k∧k≤8):=by omega
    rcases hk with rfl|rfl|rfl|rfl|rfl|⟨k3,k8⟩
    · exact tc_yes _ _
    · exact tc_no _ _
    · obtain⟨k',b',o',at',rfl⟩:=lenC1 (a:=of_) (by simp[tabA,cdShp]at h4;omega)
      exact tc_not args k' b' o' at' (ih 0 _ _ _ _ _ rfl).2
    · obtain⟨k1,b1,o1,at1,k2,b2,o2,at2,rfl⟩:=lenC2 (a:=of_) (by simp[tabA,cdShp]at h4;omega)
      exact tc_and args k1 b1 o1 at1 k2 b2 o2 at2 (ih 0 _ _ _ _ _ rfl).2 (ih 1 _ _ _ _ _ rfl).2
    · obtain⟨k1,b1,o1,at1,k2,b2,o2,at2,rfl⟩:=lenC2 (a:=of_) (by simp[tabA,cdShp]at h4;omega)
      exact tc_or args k1 b1 o1 at1 k2 b2 o2 at2 (ih 0 _ _ _ _ _ rfl).1 (ih 1 _ _ _ _ _ rfl).2
    · have hkk:k=3∨k=4∨k=5∨k=6∨k=7∨k=8:=by omega
      obtain⟨k1,nm1,n1,b1,at1,k2,nm2,n2,b2,at2,rfl⟩:=len2 (a:=args) (by
        have:(tabA cdShp k).1 =2:=by rcases hkk with rfl|rfl|rfl|rfl|rfl|rfl<;>rfl
        rw[this]at h3
        omega)
      have i1:=(te_all _ h5 0 _ _ _ _ _ _ rfl).1
      have i2:=(te_all _ h5 1 _ _ _ _ _ _ rfl).1
      rcases hkk with rfl|rfl|rfl|rfl|rfl|rfl
      · exact tc_cmp 3 ⟨#[60]⟩ 0 (by simp) of_ k1 nm1 n1 b1 at1 k2 nm2 n2 b2 at2 i1 i2
      · exact tc_cmp 4 ⟨#[60,61]⟩ 1 (by simp) of_ k1 nm1 n1 b1 at1 k2 nm2 n2 b2 at2 i1 i2
      · exact tc_cmp 5 ⟨#[62]⟩ 2 (by simp) of_ k1 nm1 n1 b1 at1 k2 nm2 n2 b2 at2 i1 i2
      · exact tc_cmp 6 ⟨#[62,61]⟩ 3 (by simp) of_ k1 nm1 n1 b1 at1 k2 nm2 n2 b2 at2 i1 i2
      · exact tc_cmp 7 ⟨#[61,61]⟩ 4 (by simp) of_ k1 nm1 n1 b1 at1 k2 nm2 n2 b2 at2 i1 i2
      · exact tc_cmp 8 ⟨#[33,61]⟩ 5 (by simp) of_ k1 nm1 n1 b1 at1 k2 nm2 n2 b2 at2 i1 i2
  exact⟨htc,tb_one htc⟩
theorem tc_all:∀xs:Cds,okC xs=true→∀(i:Nat) (k:Int) (b:Exs) (o:Cds) (at_:Int) (r:Cds),Cds.drop i xs= .cons k b o at_ r→TC k b o∧TBk k b o
  | .nil,_=>fun i _ _ _ _ _ hd=>by cases i<;>simp[Cds.drop]at hd
  | .cons k args of_ at_ rest,h=>fun i _ _ _ _ _ hd=>by
    cases i with
    |zero=>
      simp only[Cds.drop]at hd
      injection hd with e1 e2 e3 e4 e5
      subst e1 e2 e3 e4 e5
      have h':=h
      simp only[okC,Bool.and_eq_true]at h'
      exact tc_one k args of_ at_ (by simp only[okD,Bool.and_eq_true];exact h'.1) (tc_all of_ h'.1.2)
    |succ i=>
      simp only[Cds.drop]at hd
      have h':=h
      simp only[okC,Bool.and_eq_true]at h'
      exact tc_all rest h'.2 i _ _ _ _ _ hd
end Go.Proofs.YtmopichdofgndaaGreatDoor
