/-
  ref10: asked, stmt, block: THE CONTRACT. Printed by wip/gen_tp/mkstmt.py and wip/gen_in/reg.py.
-/
import Derived.Test.YtmopichdofgndaaGreatDoorTpCond
import Derived.Test.YtmopichdofgndaaGreatDoorJnPnV
set_option linter.unusedVariables false
set_option linter.unusedSimpArgs false
set_option maxHeartbeats 3200000
set_option maxRecDepth 100000
namespace Go.Proofs.YtmopichdofgndaaGreatDoor
open Go.RowKit Go.Shelf

def TS (k:Int) (nm:ByteArray) (args:Exs) (cond:Cds) (body els:Sts):Prop:=∀(at_:Int) (o:ByteArray) (w:World) (S:Nat→Prop) (Z:Prop) (A1 A2 A3 A4:Option Addr) (c1 c2 c3 c4:Nat),TwEnv w→(∀x,S x→x < w.heap.size)→
 SlR (fun b o=>ExR w S Z args b o) args.len 64 A1 c1→SlR (fun b o=>CdR w S Z cond b o) cond.len 64 A2 c2→SlR (fun b o=>StR w S Z body b o) body.len 128 A3 c3→SlR (fun b o=>StR w S Z els b o) els.len 128 A4 c4→
 o.size+sumT (innS k nm.data.toList (txX args) (txC cond) (txS body) (txS els))≤140737488355328→
 Calls Tryz.prog 173 #[.string o,.agg #[.int .u8 k,.string nm,.slice A1 args.len c1,.slice A2 cond.len c2,.slice A3 body.len c3,.slice A4 els.len c4,.int .i64 at_]] w (TxP (putsA o (innS k nm.data.toList (txX args) (txC cond) (txS body) (txS els))) w)
def TSs (xs:Sts):Prop:=∀(i:Nat) (k:Int) (nm:ByteArray) (args:Exs) (cond:Cds) (body els:Sts) (at_:Int) (r:Sts),Sts.drop i xs= .cons k nm args cond body els at_ r→TS k nm args cond body els
def TBl (xs:Sts):Prop:=∀(o:ByteArray) (w:World) (S:Nat→Prop) (Z:Prop) (A:Option Addr) (c:Nat),TwEnv w→(∀x,S x→x < w.heap.size)→SlR (fun b o=>StR w S Z xs b o) xs.len 128 A c→o.size+sumT (blkT (txS xs))≤140737488355328→
 Calls Tryz.prog 109 #[.string o,.slice A xs.len c] w (TxP (putsA o (blkT (txS xs))) w)
def askL (wd:ByteArray) (k:Int) (b:Exs) (o:Cds):Tx:=wd.data.toList:: [40]::(innC k (txX b) (txC o)++ [[41]])
theorem ask_l (wd:ByteArray) (k:Int) (b:Exs) (o:Cds) (at_:Int):askT wd.data.toList (txC (.cons k b o at_ .nil))=askL wd k b o:=by
 show wd.data.toList:: [40]::(arC 0 (hgtC k,innC k (txX b) (txC o))++ [[41]])=_
 rw[show arC 0 (hgtC k,innC k (txX b) (txC o))=innC k (txX b) (txC o)from by unfold arC;rw[if_neg (Nat.not_lt_zero _)]]
 rfl
theorem tasked_any (wd:ByteArray) {k:Int} {b:Exs} {of_:Cds} (ih:TC k b of_) (at_:Int) (o:ByteArray) (w:World) (S:Nat→Prop) (Z:Prop) (A A':Option Addr) (c c':Nat) (he:TwEnv w) (hS:∀x,S x→x < w.heap.size) (hx:SlR (fun i o=>ExR w S Z b i o) b.len 64 A c) (hx':SlR (fun i o=>CdR w S Z of_ i o) of_.len 64 A' c') (hlen:o.size+sumT (askL wd k b of_)≤140737488355328):
  Calls Tryz.prog 207 #[.string o,.string wd,.agg #[.int .u8 k,.slice A b.len c,.slice A' of_.len c',.int .i64 at_]] w (TxP (putsA o (askL wd k b of_)) w):=by
 unfold askL at hlen ⊢
 have HC:=hdq (fun(o':ByteArray) (W:World) (hf:Fr NoT w W) hl=>ih at_ o' W S Z A A' c c' (he.keep hf.plain) (fun b hb=>ltq (hS b hb) hf.size) (hx.imp fun _ _ hx=>ExR.keep (hf.same fun b hb=>⟨hS b hb,id⟩) hx) (hx'.imp fun _ _ hx=>CdR.keep (hf.same fun b hb=>⟨hS b hb,id⟩) hx) hl)
 obtain⟨tx,htx⟩:=nmq (innC k (txX b) (txC of_))
 rw[←htx]at HC hlen ⊢
 obtain⟨al,hal⟩:=nmq b.len
 obtain⟨ol,hol⟩:=nmq of_.len
 rw[←hal,←hol]at HC ⊢
 obtain⟨w1,hw1⟩:=nmq (w.alloc (.cells #[.int .u8 k,.slice A al c,.slice A' ol c',.int .i64 at_] 160))
 have hf1:Fr NoT w w1:=by rw[hw1];exact(Fr.refl _ _).alloc _
 have hk1:Bk w1 w.heap.size 160 #[.int .u8 k,.slice A al c,.slice A' ol c',.int .i64 at_]:=by rw[hw1];exact Bk.new _ _ _
 have c0:=hk1.cell 0
 have c1:=hk1.cell 1
 have c2:=hk1.cell 2
 have c3:=hk1.cell 3
 have hl1:=hk1.lt
 simp only[getsL]at c0 c1 c2 c3
 have HW1:=hdq hw1
 have HF1:=hdq hf1
 have r1:=one_room hlen (by decide)
 have r2:=one_room (t:=⟨#[40]⟩) r1.2 (by decide)
 have r3:=putsA_room r2.2
 have r4:=one_room (t:=⟨#[41]⟩) r3 (by decide)
 have HR:=hdq (aiq r1.1 (aiq r2.1 (aiq (show(putA (putA o wd) ⟨#[40]⟩).size +sumT tx≤140737488355328 by have:=r2.2;rw[sumT_app]at this;omega) r4.1)))
 clear r1 r2 r3 r4 hlen he hS hx hx' ih htx hal hol hw1 hf1 hk1
 go_enter Tryz.func207,Tryz.ntmps207
 go_wp2_with fail
 rw[←HW1.out]
 refine wp_region_still_tail 5 (by kernel_rfl) (by kernel_rfl) ?_
 simp only[List.take_succ_cons,List.take_zero,List.drop_succ_cons,List.drop_zero]
 repeat still_step
 still_call (tput_q _ _ HR.out.1 _)
 repeat still_step
 still_call (tput_q _ _ HR.out.2.1 _)
 repeat still_step
 try refine wpStill_nil ?_
 go_wp2_with fail
 refine(HC.out _ _ (HF1.out.trans (Fr.refl NoT w1).drew) HR.out.2.2.1).mono ?_
 rintro _ w3 ⟨rfl,hf3⟩
 have HF3:=hdq ((HF1.out.trans (Fr.refl NoT w1).drew).trans hf3)
 clear hf3 c0 c1 c2 c3 hl1
 go_wp2_with fail
 refine(tput_any _ _ HR.out.2.2.2 _).mono ?_
 rintro _ _ ⟨rfl,rfl⟩
 go_wp2_with fail
 go_ret
 exact⟨by rw[putsA_cons,putsA_cons,putsA_app];rfl,HF3.out⟩
theorem tbl_any (xs:Sts) (ih:TSs xs):TBl xs:=by
 intro o w S Z A c he hS hx hlen
 have hl:xs.len≤9223372036854775807:=leq9 hx.1 hx.2.1.1
 have hlen:o.size+sumT ([123]::((txS xs).flatten ++ [[125]]))≤140737488355328:=hlen
 have r1:=one_room (t:=⟨#[123]⟩) hlen (by decide)
 have r2:=putsA_room r1.2
 have r3:=one_room (t:=⟨#[125]⟩) r2 (by decide)
 have HR:=hdq (aiq r1.1 (aiq (show(putA o ⟨#[123]⟩).size +sumT (txS xs).flatten ≤140737488355328 by have:=r1.2;rw[sumT_app]at this;omega) r3.1))
 have HX:=hdq hx
 have HS:=hdq hS
 have HE:=hdq he
 have HI:=hdq ih
 obtain⟨m,hm⟩:=nmq xs.len
 rw[←hm]at hl ⊢
 have HM:=hdq hm
 clear r1 r2 r3 hlen he hS hx ih hm
 show Calls _ _ _ _ (TxP (putsA o ([123]::((txS xs).flatten ++ [[125]]))) w)
 go_enter Tryz.func109,Tryz.ntmps109
 go_wp2_with fail
 refine(tput_any _ _ HR.out.1 _).mono ?_
 rintro _ _ ⟨rfl,rfl⟩
 go_wp2_with fail
 go_loopw [0,5] (fun s i wr=>∃k:Nat,k≤m∧i= .int .i64 k∧s= .string (putsA (putA o ⟨#[123]⟩) ((txS xs).take k).flatten)∧Hid (Fr NoT w wr)) (fun _ i _=>m - (intOf i).toNat)
 case atStart=>exact⟨0,Nat.zero_le _,rfl,rfl,Fr.refl _ _⟩
 case round=>
  obtain⟨k,hk,rfl,rfl,hb⟩:=hrel
  by_cases hlt:k < m
  ·obtain⟨a0,a1,a2,a3,a4,a5,a6,ar,hd⟩:=Sts.drop_cons (show k < xs.len from by rw[←HM.out];exact hlt)
   obtain⟨b,oo,rfl,hat⟩:=HX.out.2.2 (by rw[←HM.out];omega)
   have hsm:SameS S w wr:=hb.out.same fun b hb=>⟨HS.out b hb,id⟩
   have hat1:=(StR.keep hsm hat).drop k
   rw[hd]at hat1
   obtain⟨⟨hbS,_,r0,r1,d0,d1,d6⟩,⟨A1,q1,d2,s1⟩,⟨A2,q2,d3,s2⟩,⟨A3,q3,d4,s3⟩,⟨A4,q4,d5,s4⟩,_⟩:=hat1
   have hxr:b < wr.heap.size:=ltq (HS.out _ hbS) hb.out.size
   have hlt':(k:Int) < (m:Int):=by omega
   have hge:(0:Int)≤(k:Int):=by omega
   have htk:=txS_drop xs k hd
   have hfn:=flat_next htk
   have hfs:sumT ((txS xs).take (k+1)).flatten ≤sumT (txS xs).flatten :=flat_sum
   obtain⟨tt,htt⟩:=nmq (innS a0 a1.data.toList (txX a2) (txC a3) (txS a4) (txS a5))
   rw[←htt]at hfn
   have hroom:(putsA (putA o ⟨#[123]⟩) ((txS xs).take k).flatten).size +sumT tt≤140737488355328:=by
    have:=putsA_size ((txS xs).take k).flatten (putA o ⟨#[123]⟩)
    rw[hfn,sumT_app]at hfs
    have:=HR.out.2.1
    omega
   have hone:=HI.out k _ _ _ _ _ _ _ _ hd a6 (putsA (putA o ⟨#[123]⟩) ((txS xs).take k).flatten) wr S Z A1 A2 A3 A4 q1 q2 q3 q4 (HE.out.keep hb.out.plain) (fun x hx=>ltq (HS.out x hx) hb.out.size) s1 s2 s3 s4 (by rw[←htt];exact hroom)
   rw[←htt]at hone
   have HC:=hdq hone
   have HN:=hdq (show putsA (putA o ⟨#[123]⟩) ((txS xs).take (k+1)).flatten =putsA (putsA (putA o ⟨#[123]⟩) ((txS xs).take k).flatten) tt by rw[hfn,putsA_app])
   have HB:=hdq hb.out
   clear hd hat hb hbS hsm r0 r1 s1 s2 s3 s4 htk hfn hfs htt hroom hone
   go_wp2_with fail
   refine HC.out.mono ?_
   rintro _ w1 ⟨rfl,hf1⟩
   have HF:=hdq (HB.out.trans hf1)
   clear hf1 d0 d1 d2 d3 d4 d5 d6 hxr
   go_wp2_with fail
   go_roundw
   case rel=>exact⟨k+1,by omega,by go_num,by rw[HN.out],HF⟩
   case measure=>simp[intOf];omega
  ·have hlt':¬(k:Int) < (m:Int):=by omega
   have HT:=hdq (show(txS xs).take k=txS xs from List.take_of_length_le (by rw[txS_len,←HM.out];omega))
   rw[HT.out]
   have HB:=hdq hb.out
   clear hb
   go_wp2_with fail
   refine(tput_any _ _ HR.out.2.2 _).mono ?_
   rintro _ _ ⟨rfl,rfl⟩
   go_wp2_with fail
   go_ret
   exact⟨by rw[putsA_cons,putsA_app];rfl,HB.out⟩
theorem ts_skip (nm:ByteArray) (args:Exs) (cond:Cds) (body els:Sts):TS 1 nm args cond body els:=by
 intro at_ o w S Z A1 A2 A3 A4 c1 c2 c3 c4 he hS x1 x2 x3 x4 hlen
 have hlen:o.size+sumT [[115,107,105,112], [59]]≤140737488355328:=hlen
 have r1:=one_room (t:=⟨#[115,107,105,112]⟩) hlen (by decide)
 have HR:=hdq (aiq r1.1 (one_room (t:=⟨#[59]⟩) r1.2 (by decide)).1)
 obtain⟨n1,hn1⟩:=nmq args.len
 obtain⟨n2,hn2⟩:=nmq cond.len
 obtain⟨n3,hn3⟩:=nmq body.len
 obtain⟨n4,hn4⟩:=nmq els.len
 rw[←hn1,←hn2,←hn3,←hn4]
 have HF1:=hdq (show Fr NoT w (w.alloc (.cells #[.int .u8 1,.string nm,.slice A1 n1 c1,.slice A2 n2 c2,.slice A3 n3 c3,.slice A4 n4 c4,.int .i64 at_] 39))from(Fr.refl _ _).alloc _)
 clear he hS x1 x2 x3 x4 hlen r1 hn1 hn2 hn3 hn4
 go_enter Tryz.func173,Tryz.ntmps173
 go_wp2_with fail
 refine(tput_any _ _ HR.out.1 _).mono ?_
 rintro _ _ ⟨rfl,rfl⟩
 go_wp2_with fail
 refine(tput_any _ _ HR.out.2 _).mono ?_
 rintro _ _ ⟨rfl,rfl⟩
 go_wp2_with fail
 go_ret
 exact⟨rfl,HF1.out⟩
theorem ts_input (nm:ByteArray) (args:Exs) (cond:Cds) (body els:Sts):TS 4 nm args cond body els:=by
 intro at_ o w S Z A1 A2 A3 A4 c1 c2 c3 c4 he hS x1 x2 x3 x4 hlen
 have hlen:o.size+sumT [[105,110,112,117,116],nm.data.toList, [59]]≤140737488355328:=hlen
 have r1:=one_room (t:=⟨#[105,110,112,117,116]⟩) hlen (by decide)
 have r2:=one_room r1.2 (by decide)
 have HR:=hdq (aiq r1.1 (aiq r2.1 (one_room (t:=⟨#[59]⟩) r2.2 (by decide)).1))
 obtain⟨n1,hn1⟩:=nmq args.len
 obtain⟨n2,hn2⟩:=nmq cond.len
 obtain⟨n3,hn3⟩:=nmq body.len
 obtain⟨n4,hn4⟩:=nmq els.len
 rw[←hn1,←hn2,←hn3,←hn4]
 obtain⟨w1,hw1⟩:=nmq (w.alloc (.cells #[.int .u8 4,.string nm,.slice A1 n1 c1,.slice A2 n2 c2,.slice A3 n3 c3,.slice A4 n4 c4,.int .i64 at_] 39))
 have hf1:Fr NoT w w1:=by rw[hw1];exact(Fr.refl _ _).alloc _
 have hk1:Bk w1 w.heap.size 39 #[.int .u8 4,.string nm,.slice A1 n1 c1,.slice A2 n2 c2,.slice A3 n3 c3,.slice A4 n4 c4,.int .i64 at_]:=by rw[hw1];exact Bk.new _ _ _
 have y1:=hk1.cell 1
 have yl:=hk1.lt
 simp only[getsL]at y1
 have HW1:=hdq hw1
 have HF1:=hdq hf1
 have HK1:=hdq hk1
 clear he hS x1 x2 x3 x4 hlen r1 r2 hn1 hn2 hn3 hn4 hw1 hf1 hk1
 go_enter Tryz.func173,Tryz.ntmps173
 go_wp2_with fail
 rw[←HW1.out]
 refine wp_region_still_tail 4 (by kernel_rfl) (by kernel_rfl) ?_
 simp only[List.take_succ_cons,List.take_zero,List.drop_succ_cons,List.drop_zero]
 repeat still_step
 still_call (tput_q _ _ HR.out.1 _)
 repeat still_step
 try refine wpStill_nil ?_
 go_wp2_with fail
 refine(tput_any _ _ HR.out.2.1 _).mono ?_
 rintro _ _ ⟨rfl,rfl⟩
 go_wp2_with fail
 refine(tput_any _ _ HR.out.2.2 _).mono ?_
 rintro _ _ ⟨rfl,rfl⟩
 go_wp2_with fail
 go_ret
 exact⟨rfl,HF1.out.trans (Fr.refl NoT w1).drew⟩
theorem ts_set (nm:ByteArray) (k1:Int) (nm1:ByteArray) (m1:Int) (b1:Exs) (at1:Int) (cond:Cds) (body els:Sts) (ih:TE k1 nm1 m1 b1):TS 2 nm (.cons k1 nm1 m1 b1 at1 .nil) cond body els:=by
 intro at_ o w S Z A1 A2 A3 A4 c1 c2 c3 c4 he hS x1 x2 x3 x4 hlen
 have hi:innS 2 nm.data.toList (txX (.cons k1 nm1 m1 b1 at1 .nil)) (txC cond) (txS body) (txS els)=nm.data.toList:: [61]::(innE k1 nm1 m1 (txX b1)++ [[59]]):=by
  show nm.data.toList:: [61]::(arE 0 (lvlE k1,innE k1 nm1 m1 (txX b1))++ [[59]])=_
  rw[tE0]
 rw[hi]at hlen ⊢
 unfold TE at ih
 obtain⟨tx,htx⟩:=nmq (innE k1 nm1 m1 (txX b1))
 rw[←htx]at ih hlen ⊢
 have r1:=one_room hlen (by decide)
 have r2:=one_room (t:=⟨#[61]⟩) r1.2 (by decide)
 have r3:=putsA_room r2.2
 have r4:=one_room (t:=⟨#[59]⟩) r3 (by decide)
 have HR:=hdq (aiq r1.1 (aiq r2.1 (aiq (show(putA (putA o nm) ⟨#[61]⟩).size +sumT tx≤140737488355328 by have:=r2.2;rw[sumT_app]at this;omega) r4.1)))
 obtain⟨n2,hn2⟩:=nmq cond.len
 obtain⟨n3,hn3⟩:=nmq body.len
 obtain⟨n4,hn4⟩:=nmq els.len
 rw[←hn2,←hn3,←hn4]
 obtain⟨w1,hw1⟩:=nmq (w.alloc (.cells #[.int .u8 2,.string nm,.slice A1 1 c1,.slice A2 n2 c2,.slice A3 n3 c3,.slice A4 n4 c4,.int .i64 at_] 39))
 have hf1:Fr NoT w w1:=by rw[hw1];exact(Fr.refl _ _).alloc _
 have hk1:Bk w1 w.heap.size 39 #[.int .u8 2,.string nm,.slice A1 1 c1,.slice A2 n2 c2,.slice A3 n3 c3,.slice A4 n4 c4,.int .i64 at_]:=by rw[hw1];exact Bk.new _ _ _
 have y1:=hk1.cell 1
 have y2:=hk1.cell 2
 have yl:=hk1.lt
 simp only[getsL]at y1 y2
 have HW1:=hdq hw1
 have HF1:=hdq hf1
 have HK1:=hdq hk1
 obtain⟨bA,oA,rfl,hat⟩:=x1.2.2 (Nat.succ_pos _)
 have hat1:=ExR.keep (hf1.same fun b hb=>⟨hS b hb,id⟩) hat
 obtain⟨B1,q1,s1,hn_1,hbS,d0,d1,d2,d3,d4⟩:=hat1.first9
 have hlA:bA < w1.heap.size:=ltq (hS _ hbS) hf1.size
 have HC:=hdq (fun(o':ByteArray) (W:World) (hf:Fr NoT w1 W) hl=>ih at1 o' W S Z B1 q1 (he.keep (hf1.trans hf).plain) (fun b hb=>ltq (hS b hb) (hf1.trans hf).size) (s1.imp fun _ _ hx=>ExR.keep (hf.same fun b hb=>⟨ltq (hS b hb) hf1.size,id⟩) hx) hn_1 hl)
 clear he hS x1 x2 x3 x4 hlen r1 r2 r3 r4 hn2 hn3 hn4 hw1 hf1 hk1 hat hat1 s1 hn_1 hbS ih hi htx
 show Calls _ _ #[.string o,.agg #[.int .u8 2,.string nm,.slice (some ⟨bA,oA,none⟩) 1 c1,.slice A2 n2 c2,.slice A3 n3 c3,.slice A4 n4 c4,.int .i64 at_]] _ _
 go_enter Tryz.func173,Tryz.ntmps173
 go_wp2_with fail
 rw[←HW1.out]
 refine wp_region_still_tail 9 (by kernel_rfl) (by kernel_rfl) ?_
 simp only[List.take_succ_cons,List.take_zero,List.drop_succ_cons,List.drop_zero]
 repeat still_step
 still_call (tput_q _ _ HR.out.1 _)
 repeat still_step
 still_call (tput_q _ _ HR.out.2.1 _)
 repeat still_step
 try refine wpStill_nil ?_
 go_wp2_with fail
 refine(HC.out _ _ (Fr.refl NoT w1).drew HR.out.2.2.1).mono ?_
 rintro _ w2 ⟨rfl,hf2⟩
 have HF2:=hdq (HF1.out.trans ((Fr.refl NoT w1).drew.trans hf2))
 clear hf2 y1 y2 yl d0 d1 d2 d3 d4 hlA
 go_wp2_with fail
 refine(tput_any _ _ HR.out.2.2.2 _).mono ?_
 rintro _ _ ⟨rfl,rfl⟩
 go_wp2_with fail
 go_ret
 exact⟨by rw[putsA_cons,putsA_cons,putsA_app];rfl,HF2.out⟩
theorem ts_store (nm:ByteArray) (k1:Int) (nm1:ByteArray) (m1:Int) (b1:Exs) (at1:Int) (k2:Int) (nm2:ByteArray) (m2:Int) (b2:Exs) (at2:Int) (cond:Cds) (body els:Sts) (ih:TE k1 nm1 m1 b1) (ih2:TE k2 nm2 m2 b2):TS 3 nm (.cons k1 nm1 m1 b1 at1 (.cons k2 nm2 m2 b2 at2 .nil)) cond body els:=by
 intro at_ o w S Z A1 A2 A3 A4 c1 c2 c3 c4 he hS x1 x2 x3 x4 hlen
 have hi:innS 3 nm.data.toList (txX (.cons k1 nm1 m1 b1 at1 (.cons k2 nm2 m2 b2 at2 .nil))) (txC cond) (txS body) (txS els)=nm.data.toList:: [91]::(innE k1 nm1 m1 (txX b1)++ [93]:: [61]::(innE k2 nm2 m2 (txX b2)++ [[59]])):=by
  show nm.data.toList:: [91]::(arE 0 (lvlE k1,innE k1 nm1 m1 (txX b1))++ [93]:: [61]::(arE 0 (lvlE k2,innE k2 nm2 m2 (txX b2))++ [[59]]))=_
  rw[tE0,tE0]
 rw[hi]at hlen ⊢
 unfold TE at ih ih2
 obtain⟨tx,htx⟩:=nmq (innE k1 nm1 m1 (txX b1))
 obtain⟨ty,hty⟩:=nmq (innE k2 nm2 m2 (txX b2))
 rw[←htx]at ih hlen ⊢
 rw[←hty]at ih2 hlen ⊢
 have r1:=one_room hlen (by decide)
 have r2:=one_room (t:=⟨#[91]⟩) r1.2 (by decide)
 have r3:=putsA_room r2.2
 have r4:=one_room (t:=⟨#[93]⟩) r3 (by decide)
 have r5:=one_room (t:=⟨#[61]⟩) r4.2 (by decide)
 have r6:=putsA_room r5.2
 have r7:=one_room (t:=⟨#[59]⟩) r6 (by decide)
 have HR:=hdq (aiq r1.1 (aiq r2.1 (aiq (show(putA (putA o nm) ⟨#[91]⟩).size +sumT tx≤140737488355328 by have:=r2.2;rw[sumT_app]at this;omega) (aiq r4.1 (aiq r5.1 (aiq (show(putA (putA (putsA (putA (putA o nm) ⟨#[91]⟩) tx) ⟨#[93]⟩) ⟨#[61]⟩).size +sumT ty≤140737488355328 by have:=r5.2;rw[sumT_app]at this;omega) r7.1))))))
 obtain⟨n2,hn2⟩:=nmq cond.len
 obtain⟨n3,hn3⟩:=nmq body.len
 obtain⟨n4,hn4⟩:=nmq els.len
 rw[←hn2,←hn3,←hn4]
 obtain⟨w1,hw1⟩:=nmq (w.alloc (.cells #[.int .u8 3,.string nm,.slice A1 2 c1,.slice A2 n2 c2,.slice A3 n3 c3,.slice A4 n4 c4,.int .i64 at_] 39))
 have hf1:Fr NoT w w1:=by rw[hw1];exact(Fr.refl _ _).alloc _
 have hk1:Bk w1 w.heap.size 39 #[.int .u8 3,.string nm,.slice A1 2 c1,.slice A2 n2 c2,.slice A3 n3 c3,.slice A4 n4 c4,.int .i64 at_]:=by rw[hw1];exact Bk.new _ _ _
 have y1:=hk1.cell 1
 have y2:=hk1.cell 2
 have yl:=hk1.lt
 simp only[getsL]at y1 y2
 have HW1:=hdq hw1
 have HF1:=hdq hf1
 have HK1:=hdq hk1
 obtain⟨bA,oA,rfl,hat⟩:=x1.2.2 (Nat.succ_pos _)
 have hat1:=ExR.keep (hf1.same fun b hb=>⟨hS b hb,id⟩) hat
 obtain⟨B1,q1,s1,hn_1,hbS,d0,d1,d2,d3,d4⟩:=hat1.first9
 have hlA:bA < w1.heap.size:=ltq (hS _ hbS) hf1.size
 obtain⟨B2,q2,s2,hn_2,_,g0,g1,g2,g3,g4⟩:=ExR.first9 hat1.2.2
 have HC:=hdq (fun(o':ByteArray) (W:World) (hf:Fr NoT w1 W) hl=>ih at1 o' W S Z B1 q1 (he.keep (hf1.trans hf).plain) (fun b hb=>ltq (hS b hb) (hf1.trans hf).size) (s1.imp fun _ _ hx=>ExR.keep (hf.same fun b hb=>⟨ltq (hS b hb) hf1.size,id⟩) hx) hn_1 hl)
 have HC2:=hdq (fun(o':ByteArray) (W:World) (hf:Fr NoT w1 W) hl=>ih2 at2 o' W S Z B2 q2 (he.keep (hf1.trans hf).plain) (fun b hb=>ltq (hS b hb) (hf1.trans hf).size) (s2.imp fun _ _ hx=>ExR.keep (hf.same fun b hb=>⟨ltq (hS b hb) hf1.size,id⟩) hx) hn_2 hl)
 obtain⟨l2,hl2⟩:=nmq b2.len
 rw[←hl2]at g3 HC2
 have HD:=hdq (show ∀W,Fr NoT w1 W→bA < W.heap.size∧W.cell? ⟨bA,oA+5,none⟩=some (.int .u8 k2)∧W.cell? ⟨bA,oA+5+1,none⟩=some (.string nm2)∧W.cell? ⟨bA,oA+5+2,none⟩=some (.int .i64 m2)∧W.cell? ⟨bA,oA+5+3,none⟩=some (.slice B2 l2 q2)∧W.cell? ⟨bA,oA+5+4,none⟩=some (.int .i64 at2)from fun W hf=>
  ⟨ltq hlA hf.size,(hf.cell hlA id).trans g0,(hf.cell hlA id).trans g1,(hf.cell hlA id).trans g2,(hf.cell hlA id).trans g3,(hf.cell hlA id).trans g4⟩)
 clear he hS x1 x2 x3 x4 hlen r1 r2 r3 r4 r5 r6 r7 hn2 hn3 hn4 hw1 hf1 hk1 hat hat1 s1 s2 hn_1 hn_2 hbS ih ih2 hi htx hty g0 g1 g2 g3 g4 hl2
 show Calls _ _ #[.string o,.agg #[.int .u8 3,.string nm,.slice (some ⟨bA,oA,none⟩) 2 c1,.slice A2 n2 c2,.slice A3 n3 c3,.slice A4 n4 c4,.int .i64 at_]] _ _
 go_enter Tryz.func173,Tryz.ntmps173
 go_wp2_with fail
 rw[←HW1.out]
 refine wp_region_still_tail 9 (by kernel_rfl) (by kernel_rfl) ?_
 simp only[List.take_succ_cons,List.take_zero,List.drop_succ_cons,List.drop_zero]
 repeat still_step
 still_call (tput_q _ _ HR.out.1 _)
 repeat still_step
 still_call (tput_q _ _ HR.out.2.1 _)
 repeat still_step
 try refine wpStill_nil ?_
 go_wp2_with fail
 refine(HC.out _ _ (Fr.refl NoT w1).drew HR.out.2.2.1).mono ?_
 rintro _ w2 ⟨rfl,hf2⟩
 have hf12:=(Fr.refl NoT w1).drew.trans hf2
 obtain⟨hl2,g0,g1,g2,g3,g4⟩:=HD.out _ hf12
 have hk2:=HK1.out.fr0 hf12
 have z2:=hk2.cell 2
 have zl:=hk2.lt
 simp only[getsL]at z2
 have HF2:=hdq (hf12.trans (Fr.refl NoT w2).drew)
 clear hf2 hf12 hk2 y1 y2 yl d0 d1 d2 d3 d4 hlA
 go_wp2_with fail
 refine wp_region_still_tail 7 (by kernel_rfl) (by kernel_rfl) ?_
 simp only[List.take_succ_cons,List.take_zero,List.drop_succ_cons,List.drop_zero]
 repeat still_step
 still_call (tput_q _ _ HR.out.2.2.2.1 _)
 repeat still_step
 still_call (tput_q _ _ HR.out.2.2.2.2.1 _)
 repeat still_step
 try refine wpStill_nil ?_
 go_wp2_with fail
 refine(HC2.out _ _ HF2.out HR.out.2.2.2.2.2.1).mono ?_
 rintro _ w3 ⟨rfl,hf3⟩
 have HF3:=hdq (HF1.out.trans (HF2.out.trans hf3))
 clear hf3 z2 zl hl2 g0 g1 g2 g3 g4
 go_wp2_with fail
 refine(tput_any _ _ HR.out.2.2.2.2.2.2 _).mono ?_
 rintro _ _ ⟨rfl,rfl⟩
 go_wp2_with fail
 go_ret
 exact⟨by rw[putsA_cons,putsA_cons,putsA_app,putsA_cons,putsA_cons,putsA_app];rfl,HF3.out⟩
theorem ts_assume (nm:ByteArray) (args:Exs) (k1:Int) (b1:Exs) (o1:Cds) (at1:Int) (body els:Sts) (ih:TC k1 b1 o1):TS 5 nm args (.cons k1 b1 o1 at1 .nil) body els:=by
 intro at_ o w S Z A1 A2 A3 A4 c1 c2 c3 c4 he hS x1 x2 x3 x4 hlen
 have hi:innS 5 nm.data.toList (txX args) (txC (.cons k1 b1 o1 at1 .nil)) (txS body) (txS els)=askL ⟨#[97,115,115,117,109,101]⟩ k1 b1 o1++ [[59]]:=by
  rw[←ask_l ⟨#[97,115,115,117,109,101]⟩ k1 b1 o1 at1]
  rfl
 rw[hi]at hlen ⊢
 have r3:=putsA_room hlen
 have r4:=one_room (t:=⟨#[59]⟩) r3 (by decide)
 have HR:=hdq (aiq (show o.size+sumT (askL ⟨#[97,115,115,117,109,101]⟩ k1 b1 o1)≤140737488355328 by rw[sumT_app]at hlen;omega) r4.1)
 obtain⟨n1,hn1⟩:=nmq args.len
 obtain⟨n3,hn3⟩:=nmq body.len
 obtain⟨n4,hn4⟩:=nmq els.len
 rw[←hn1,←hn3,←hn4]
 obtain⟨w1,hw1⟩:=nmq (w.alloc (.cells #[.int .u8 5,.string nm,.slice A1 n1 c1,.slice A2 1 c2,.slice A3 n3 c3,.slice A4 n4 c4,.int .i64 at_] 39))
 have hf1:Fr NoT w w1:=by rw[hw1];exact(Fr.refl _ _).alloc _
 have hk1:Bk w1 w.heap.size 39 #[.int .u8 5,.string nm,.slice A1 n1 c1,.slice A2 1 c2,.slice A3 n3 c3,.slice A4 n4 c4,.int .i64 at_]:=by rw[hw1];exact Bk.new _ _ _
 have y3:=hk1.cell 3
 have yl:=hk1.lt
 simp only[getsL]at y3
 have HW1:=hdq hw1
 have HF1:=hdq hf1
 have HK1:=hdq hk1
 obtain⟨bA,oA,rfl,hat⟩:=x2.2.2 (Nat.succ_pos _)
 have hat1:=CdR.keep (hf1.same fun b hb=>⟨hS b hb,id⟩) hat
 obtain⟨B1,q1,B2,q2,s1,s2,hbS,d0,d1,d2,d3⟩:=hat1.first
 have hlA:bA < w1.heap.size:=ltq (hS _ hbS) hf1.size
 have HC:=hdq (fun(W:World) (hf:Fr NoT w1 W) hl=>tasked_any ⟨#[97,115,115,117,109,101]⟩ ih at1 o W S Z B1 B2 q1 q2 (he.keep (hf1.trans hf).plain) (fun b hb=>ltq (hS b hb) (hf1.trans hf).size) (s1.imp fun _ _ hx=>ExR.keep (hf.same fun b hb=>⟨ltq (hS b hb) hf1.size,id⟩) hx) (s2.imp fun _ _ hx=>CdR.keep (hf.same fun b hb=>⟨ltq (hS b hb) hf1.size,id⟩) hx) hl)
 obtain⟨tx,htx⟩:=nmq (askL ⟨#[97,115,115,117,109,101]⟩ k1 b1 o1)
 rw[←htx]at HC HR ⊢
 clear he hS x1 x2 x3 x4 hlen r3 r4 hn1 hn3 hn4 hw1 hf1 hk1 hat hat1 s1 s2 hbS ih hi htx
 show Calls _ _ #[.string o,.agg #[.int .u8 5,.string nm,.slice A1 n1 c1,.slice (some ⟨bA,oA,none⟩) 1 c2,.slice A3 n3 c3,.slice A4 n4 c4,.int .i64 at_]] _ _
 rw[HW1.out]at d0 d1 d2 d3 hlA
 go_enter Tryz.func173,Tryz.ntmps173
 go_wp2_with fail
 rw[←HW1.out]
 refine(HC.out _ (Fr.refl _ _) HR.out.1).mono ?_
 rintro _ w2 ⟨rfl,hf2⟩
 have HF2:=hdq (HF1.out.trans hf2)
 clear hf2 y3 yl d0 d1 d2 d3 hlA
 go_wp2_with fail
 refine(tput_any _ _ HR.out.2 _).mono ?_
 rintro _ _ ⟨rfl,rfl⟩
 go_wp2_with fail
 go_ret
 exact⟨by rw[putsA_app];rfl,HF2.out⟩
theorem ts_assert (nm:ByteArray) (args:Exs) (k1:Int) (b1:Exs) (o1:Cds) (at1:Int) (body els:Sts) (ih:TC k1 b1 o1):TS 6 nm args (.cons k1 b1 o1 at1 .nil) body els:=by
 intro at_ o w S Z A1 A2 A3 A4 c1 c2 c3 c4 he hS x1 x2 x3 x4 hlen
 have hi:innS 6 nm.data.toList (txX args) (txC (.cons k1 b1 o1 at1 .nil)) (txS body) (txS els)=askL ⟨#[97,115,115,101,114,116]⟩ k1 b1 o1++ [[59]]:=by
  rw[←ask_l ⟨#[97,115,115,101,114,116]⟩ k1 b1 o1 at1]
  rfl
 rw[hi]at hlen ⊢
 have r3:=putsA_room hlen
 have r4:=one_room (t:=⟨#[59]⟩) r3 (by decide)
 have HR:=hdq (aiq (show o.size+sumT (askL ⟨#[97,115,115,101,114,116]⟩ k1 b1 o1)≤140737488355328 by rw[sumT_app]at hlen;omega) r4.1)
 obtain⟨n1,hn1⟩:=nmq args.len
 obtain⟨n3,hn3⟩:=nmq body.len
 obtain⟨n4,hn4⟩:=nmq els.len
 rw[←hn1,←hn3,←hn4]
 obtain⟨w1,hw1⟩:=nmq (w.alloc (.cells #[.int .u8 6,.string nm,.slice A1 n1 c1,.slice A2 1 c2,.slice A3 n3 c3,.slice A4 n4 c4,.int .i64 at_] 39))
 have hf1:Fr NoT w w1:=by rw[hw1];exact(Fr.refl _ _).alloc _
 have hk1:Bk w1 w.heap.size 39 #[.int .u8 6,.string nm,.slice A1 n1 c1,.slice A2 1 c2,.slice A3 n3 c3,.slice A4 n4 c4,.int .i64 at_]:=by rw[hw1];exact Bk.new _ _ _
 have y3:=hk1.cell 3
 have yl:=hk1.lt
 simp only[getsL]at y3
 have HW1:=hdq hw1
 have HF1:=hdq hf1
 have HK1:=hdq hk1
 obtain⟨bA,oA,rfl,hat⟩:=x2.2.2 (Nat.succ_pos _)
 have hat1:=CdR.keep (hf1.same fun b hb=>⟨hS b hb,id⟩) hat
 obtain⟨B1,q1,B2,q2,s1,s2,hbS,d0,d1,d2,d3⟩:=hat1.first
 have hlA:bA < w1.heap.size:=ltq (hS _ hbS) hf1.size
 have HC:=hdq (fun(W:World) (hf:Fr NoT w1 W) hl=>tasked_any ⟨#[97,115,115,101,114,116]⟩ ih at1 o W S Z B1 B2 q1 q2 (he.keep (hf1.trans hf).plain) (fun b hb=>ltq (hS b hb) (hf1.trans hf).size) (s1.imp fun _ _ hx=>ExR.keep (hf.same fun b hb=>⟨ltq (hS b hb) hf1.size,id⟩) hx) (s2.imp fun _ _ hx=>CdR.keep (hf.same fun b hb=>⟨ltq (hS b hb) hf1.size,id⟩) hx) hl)
 obtain⟨tx,htx⟩:=nmq (askL ⟨#[97,115,115,101,114,116]⟩ k1 b1 o1)
 rw[←htx]at HC HR ⊢
 clear he hS x1 x2 x3 x4 hlen r3 r4 hn1 hn3 hn4 hw1 hf1 hk1 hat hat1 s1 s2 hbS ih hi htx
 show Calls _ _ #[.string o,.agg #[.int .u8 6,.string nm,.slice A1 n1 c1,.slice (some ⟨bA,oA,none⟩) 1 c2,.slice A3 n3 c3,.slice A4 n4 c4,.int .i64 at_]] _ _
 rw[HW1.out]at d0 d1 d2 d3 hlA
 go_enter Tryz.func173,Tryz.ntmps173
 go_wp2_with fail
 rw[←HW1.out]
 refine(HC.out _ (Fr.refl _ _) HR.out.1).mono ?_
 rintro _ w2 ⟨rfl,hf2⟩
 have HF2:=hdq (HF1.out.trans hf2)
 clear hf2 y3 yl d0 d1 d2 d3 hlA
 go_wp2_with fail
 refine(tput_any _ _ HR.out.2 _).mono ?_
 rintro _ _ ⟨rfl,rfl⟩
 go_wp2_with fail
 go_ret
 exact⟨by rw[putsA_app];rfl,HF2.out⟩
def TsS (g:Nat) (sl s4:Value) (b o:Nat) (a0:Int) (a1 a2:Value) (a3:Int) (W:World):Prop:=
 W.cell? ⟨g,3,none⟩=some sl∧W.cell? ⟨g,4,none⟩=some s4∧W.cell? ⟨b,o,none⟩=some (.int .u8 a0)∧W.cell? ⟨b,o+1,none⟩=some a1∧W.cell? ⟨b,o+2,none⟩=some a2∧W.cell? ⟨b,o+3,none⟩=some (.int .i64 a3)
theorem ts_while (nm:ByteArray) (args:Exs) (k1:Int) (b1:Exs) (o1:Cds) (at1:Int) (body els:Sts) (ih:TC k1 b1 o1) (ihb:TBl body):TS 8 nm args (.cons k1 b1 o1 at1 .nil) body els:=by
 intro at_ o w S Z A1 A2 A3 A4 c1 c2 c3 c4 he hS x1 x2 x3 x4 hlen
 have hi:innS 8 nm.data.toList (txX args) (txC (.cons k1 b1 o1 at1 .nil)) (txS body) (txS els)=askL ⟨#[119,104,105,108,101]⟩ k1 b1 o1++blkT (txS body):=by
  rw[←ask_l ⟨#[119,104,105,108,101]⟩ k1 b1 o1 at1]
  rfl
 rw[hi]at hlen ⊢
 have r3:=putsA_room hlen
 have HR:=hdq (aiq (show o.size+sumT (askL ⟨#[119,104,105,108,101]⟩ k1 b1 o1)≤140737488355328 by rw[sumT_app]at hlen;omega) (aiq r3 trivial))
 obtain⟨w1,hw1⟩:=nmq (w.alloc (.cells #[.int .u8 8,.string nm,.slice A1 args.len c1,.slice A2 1 c2,.slice A3 body.len c3,.slice A4 els.len c4,.int .i64 at_] 39))
 have hf1:Fr NoT w w1:=by rw[hw1];exact(Fr.refl _ _).alloc _
 have hk1:Bk w1 w.heap.size 39 #[.int .u8 8,.string nm,.slice A1 args.len c1,.slice A2 1 c2,.slice A3 body.len c3,.slice A4 els.len c4,.int .i64 at_]:=by rw[hw1];exact Bk.new _ _ _
 have yl:=hk1.lt
 have HW1:=hdq hw1
 have HF1:=hdq hf1
 have HK1:=hdq hk1
 obtain⟨bA,oA,rfl,hat⟩:=x2.2.2 (Nat.succ_pos _)
 have hat1:=CdR.keep (hf1.same fun b hb=>⟨hS b hb,id⟩) hat
 obtain⟨B1,q1,B2,q2,s1,s2,hbS,d0,d1,d2,d3⟩:=hat1.first
 have hlA:bA < w1.heap.size:=ltq (hS _ hbS) hf1.size
 have HC:=hdq (fun(W:World) (hf:Fr NoT w1 W) hl=>tasked_any ⟨#[119,104,105,108,101]⟩ ih at1 o W S Z B1 B2 q1 q2 (he.keep (hf1.trans hf).plain) (fun b hb=>ltq (hS b hb) (hf1.trans hf).size) (s1.imp fun _ _ hx=>ExR.keep (hf.same fun b hb=>⟨ltq (hS b hb) hf1.size,id⟩) hx) (s2.imp fun _ _ hx=>CdR.keep (hf.same fun b hb=>⟨ltq (hS b hb) hf1.size,id⟩) hx) hl)
 have HCB:=hdq (fun(o':ByteArray) (W:World) (hf:Fr NoT w1 W) hl=>ihb o' W S Z A3 c3 (he.keep (hf1.trans hf).plain) (fun b hb=>ltq (hS b hb) (hf1.trans hf).size) (x3.imp fun _ _ hx=>StR.keep ((hf1.trans hf).same fun b hb=>⟨hS b hb,id⟩) hx) hl)
 obtain⟨tx,htx⟩:=nmq (askL ⟨#[119,104,105,108,101]⟩ k1 b1 o1)
 obtain⟨ty,hty⟩:=nmq (blkT (txS body))
 rw[←htx]at HC HR ⊢
 rw[←hty]at HCB HR ⊢
 obtain⟨n1,hn1⟩:=nmq args.len
 obtain⟨n3,hn3⟩:=nmq body.len
 obtain⟨n4,hn4⟩:=nmq els.len
 rw[←hn1,←hn3,←hn4]at HW1 HK1 hk1 ⊢
 rw[←hn3]at HCB
 obtain⟨l1,hl1⟩:=nmq b1.len
 obtain⟨l2,hl2⟩:=nmq o1.len
 rw[←hl1]at d1 HC
 rw[←hl2]at d2 HC
 have HS:=hdq (show ∀W,Fr NoT w1 W→TsS w.heap.size (.slice (some ⟨bA,oA,none⟩) 1 c2) (.slice A3 n3 c3) bA oA k1 (.slice B1 l1 q1) (.slice B2 l2 q2) at1 W from fun W hf=>
  have hk:=hk1.fr0 hf
  ⟨hk.cell 3,hk.cell 4,(hf.cell hlA id).trans d0,(hf.cell hlA id).trans d1,(hf.cell hlA id).trans d2,(hf.cell hlA id).trans d3⟩)
 clear he hS x1 x2 x3 x4 hlen r3 hn1 hn3 hn4 hw1 hf1 hk1 hat hat1 s1 s2 hbS ih ihb hi htx hty d0 d1 d2 d3 hlA yl hl1 hl2
 show Calls _ _ #[.string o,.agg #[.int .u8 8,.string nm,.slice A1 n1 c1,.slice (some ⟨bA,oA,none⟩) 1 c2,.slice A3 n3 c3,.slice A4 n4 c4,.int .i64 at_]] _ _
 go_enter Tryz.func173,Tryz.ntmps173
 go_wp2_with fail
 rw[←HW1.out]
 refine wp_region_E (TsS w.heap.size (.slice (some ⟨bA,oA,none⟩) 1 c2) (.slice A3 n3 c3) bA oA k1 (.slice B1 l1 q1) (.slice B2 l2 q2) at1) (fun _=>true) (by kernel_rfl) (HS.out _ (Fr.refl NoT w1).drew) (fun hHeld=>?_)
 refine wpE_pu 0 ?_
 try simp only[putsL]
 refine wpE_pu 1 ?_
 try simp only[putsL]
 refine wpE_take 2 (v:=?_) rfl (by kernel_rfl) (fun _ _ _ h=>h) hHeld (by rfl) ?_ ?_;rotate_left
 ·intro wz hSz;(try dsimp only[TsS]at hSz);go_simp;try with_reducible rfl
 try simp only[putsL]
 refine wpE_pu 3 ?_
 try simp only[putsL]
 refine wpE_take 4 (v:=?_) rfl (by kernel_rfl) (fun _ _ _ h=>h) hHeld (by rfl) ?_ ?_;rotate_left
 ·intro wz hSz;(try dsimp only[TsS]at hSz);go_simp;try with_reducible rfl
 try simp only[putsL]
 refine wpE_pu 6 ?_
 try simp only[putsL]
 refine wpE_take 7 (v:=?_) rfl (by kernel_rfl) (fun _ _ _ h=>h) hHeld (by rfl) ?_ ?_;rotate_left
 ·intro wz hSz;(try dsimp only[TsS]at hSz);go_simp;try with_reducible rfl
 try simp only[putsL]
 refine wpE_next 5 rfl (by kernel_rfl) (fun KK hK=>?_)
 go_simp
 go_at_call 207
 refine(HC.out _ (Fr.refl NoT w1).drew HR.out.1).mono ?_
 rintro _ w2 ⟨rfl,hf2⟩
 have HF2:=hdq ((Fr.refl NoT w1).drew.trans hf2)
 try dsimp only
 refine hK _ _ (fun _ _=>HS.out _ HF2.out) ?_
 clear hK KK hf2
 try simp only[putsL]
 refine wpE_next 8 rfl (by kernel_rfl) (fun KK hK=>?_)
 go_simp
 go_at_call 109
 refine(HCB.out _ _ HF2.out HR.out.2.1).mono ?_
 rintro _ w3 ⟨rfl,hf3⟩
 have HF3:=hdq (HF2.out.trans hf3)
 try dsimp only
 refine hK _ _ (fun _ _=>HS.out _ HF3.out) ?_
 clear hK KK hf3
 try simp only[putsL]
 refine wpE_pu 9 ?_
 try simp only[putsL]
 refine wpE_done (by kernel_rfl) ?_
 go_wp2_with fail
 go_ret
 exact⟨by rw[putsA_app];rfl,HF1.out.trans HF3.out⟩
theorem ts_if (nm:ByteArray) (args:Exs) (k1:Int) (b1:Exs) (o1:Cds) (at1:Int) (body els:Sts) (ih:TC k1 b1 o1) (ihb:TBl body) (ihe:TBl els):TS 7 nm args (.cons k1 b1 o1 at1 .nil) body els:=by
 intro at_ o w S Z A1 A2 A3 A4 c1 c2 c3 c4 he hS x1 x2 x3 x4 hlen
 have hi:innS 7 nm.data.toList (txX args) (txC (.cons k1 b1 o1 at1 .nil)) (txS body) (txS els)=askL ⟨#[105,102]⟩ k1 b1 o1++(blkT (txS body)++(if txS els= []then []else [101,108,115,101]::blkT (txS els))):=by
  rw[←ask_l ⟨#[105,102]⟩ k1 b1 o1 at1]
  rfl
 rw[hi]at hlen ⊢
 have r3:=putsA_room hlen
 have r4:=putsA_room r3
 have HR:=hdq (aiq (show o.size+sumT (askL ⟨#[105,102]⟩ k1 b1 o1)≤140737488355328 by rw[sumT_app]at hlen;omega) (aiq (show(putsA o (askL ⟨#[105,102]⟩ k1 b1 o1)).size +sumT (blkT (txS body))≤140737488355328 by rw[sumT_app]at r3;omega) r4))
 obtain⟨w1,hw1⟩:=nmq (w.alloc (.cells #[.int .u8 7,.string nm,.slice A1 args.len c1,.slice A2 1 c2,.slice A3 body.len c3,.slice A4 els.len c4,.int .i64 at_] 39))
 have hf1:Fr NoT w w1:=by rw[hw1];exact(Fr.refl _ _).alloc _
 have hk1:Bk w1 w.heap.size 39 #[.int .u8 7,.string nm,.slice A1 args.len c1,.slice A2 1 c2,.slice A3 body.len c3,.slice A4 els.len c4,.int .i64 at_]:=by rw[hw1];exact Bk.new _ _ _
 have yl:=hk1.lt
 have HW1:=hdq hw1
 have HF1:=hdq hf1
 have HK1:=hdq hk1
 obtain⟨bA,oA,rfl,hat⟩:=x2.2.2 (Nat.succ_pos _)
 have hat1:=CdR.keep (hf1.same fun b hb=>⟨hS b hb,id⟩) hat
 obtain⟨B1,q1,B2,q2,s1,s2,hbS,d0,d1,d2,d3⟩:=hat1.first
 have hlA:bA < w1.heap.size:=ltq (hS _ hbS) hf1.size
 have HC:=hdq (fun(W:World) (hf:Fr NoT w1 W) hl=>tasked_any ⟨#[105,102]⟩ ih at1 o W S Z B1 B2 q1 q2 (he.keep (hf1.trans hf).plain) (fun b hb=>ltq (hS b hb) (hf1.trans hf).size) (s1.imp fun _ _ hx=>ExR.keep (hf.same fun b hb=>⟨ltq (hS b hb) hf1.size,id⟩) hx) (s2.imp fun _ _ hx=>CdR.keep (hf.same fun b hb=>⟨ltq (hS b hb) hf1.size,id⟩) hx) hl)
 have HCB:=hdq (fun(o':ByteArray) (W:World) (hf:Fr NoT w1 W) hl=>ihb o' W S Z A3 c3 (he.keep (hf1.trans hf).plain) (fun b hb=>ltq (hS b hb) (hf1.trans hf).size) (x3.imp fun _ _ hx=>StR.keep ((hf1.trans hf).same fun b hb=>⟨hS b hb,id⟩) hx) hl)
 have HCE:=hdq (fun(o':ByteArray) (W:World) (hf:Fr NoT w1 W) hl=>ihe o' W S Z A4 c4 (he.keep (hf1.trans hf).plain) (fun b hb=>ltq (hS b hb) (hf1.trans hf).size) (x4.imp fun _ _ hx=>StR.keep ((hf1.trans hf).same fun b hb=>⟨hS b hb,id⟩) hx) hl)
 obtain⟨tx,htx⟩:=nmq (askL ⟨#[105,102]⟩ k1 b1 o1)
 obtain⟨ty,hty⟩:=nmq (blkT (txS body))
 obtain⟨tz,htz⟩:=nmq (blkT (txS els))
 rw[←htx]at HC HR ⊢
 rw[←hty]at HCB HR ⊢
 rw[←htz]at HCE HR ⊢
 have hne:(txS els= []↔els.len=0):=txS_nil
 obtain⟨n1,hn1⟩:=nmq args.len
 obtain⟨n3,hn3⟩:=nmq body.len
 obtain⟨n4,hn4⟩:=nmq els.len
 rw[←hn1,←hn3,←hn4]at HW1 HK1 hk1 ⊢
 rw[←hn3]at HCB
 rw[←hn4]at HCE hne
 obtain⟨l1,hl1⟩:=nmq b1.len
 obtain⟨l2,hl2⟩:=nmq o1.len
 rw[←hl1]at d1 HC
 rw[←hl2]at d2 HC
 have HS:=hdq (show ∀W,Fr NoT w1 W→TsS w.heap.size (.slice (some ⟨bA,oA,none⟩) 1 c2) (.slice A3 n3 c3) bA oA k1 (.slice B1 l1 q1) (.slice B2 l2 q2) at1 W from fun W hf=>
  have hk:=hk1.fr0 hf
  ⟨hk.cell 3,hk.cell 4,(hf.cell hlA id).trans d0,(hf.cell hlA id).trans d1,(hf.cell hlA id).trans d2,(hf.cell hlA id).trans d3⟩)
 have h4:n4≤9223372036854775807:=by rw[hn4];exact leq9 x4.1 x4.2.1.1
 clear he hS x1 x2 x3 x4 hlen r3 r4 hn1 hn3 hn4 hw1 hf1 hk1 hat hat1 s1 s2 hbS ih ihb ihe hi htx hty htz d0 d1 d2 d3 hlA yl hl1 hl2
 show Calls _ _ #[.string o,.agg #[.int .u8 7,.string nm,.slice A1 n1 c1,.slice (some ⟨bA,oA,none⟩) 1 c2,.slice A3 n3 c3,.slice A4 n4 c4,.int .i64 at_]] _ _
 by_cases hn:n4=0
 ·subst hn
  rw[if_pos (hne.2 rfl)]at HR ⊢
  have h0:¬(0:Int) < ((0:Nat):Int):=by decide
  go_enter Tryz.func173,Tryz.ntmps173
  go_wp2_with fail
  rw[←HW1.out]
  refine wp_region_E (TsS w.heap.size (.slice (some ⟨bA,oA,none⟩) 1 c2) (.slice A3 n3 c3) bA oA k1 (.slice B1 l1 q1) (.slice B2 l2 q2) at1) (fun _=>true) (by kernel_rfl) (HS.out _ (Fr.refl NoT w1).drew) (fun hHeld=>?_)
  refine wpE_pu 0 ?_
  try simp only[putsL]
  refine wpE_pu 1 ?_
  try simp only[putsL]
  refine wpE_take 2 (v:=?_) rfl (by kernel_rfl) (fun _ _ _ h=>h) hHeld (by rfl) ?_ ?_;rotate_left
  ·intro wz hSz;(try dsimp only[TsS]at hSz);go_simp;try with_reducible rfl
  try simp only[putsL]
  refine wpE_pu 3 ?_
  try simp only[putsL]
  refine wpE_take 4 (v:=?_) rfl (by kernel_rfl) (fun _ _ _ h=>h) hHeld (by rfl) ?_ ?_;rotate_left
  ·intro wz hSz;(try dsimp only[TsS]at hSz);go_simp;try with_reducible rfl
  try simp only[putsL]
  refine wpE_pu 6 ?_
  try simp only[putsL]
  refine wpE_take 7 (v:=?_) rfl (by kernel_rfl) (fun _ _ _ h=>h) hHeld (by rfl) ?_ ?_;rotate_left
  ·intro wz hSz;(try dsimp only[TsS]at hSz);go_simp;try with_reducible rfl
  try simp only[putsL]
  refine wpE_next 5 rfl (by kernel_rfl) (fun KK hK=>?_)
  go_simp
  go_at_call 207
  refine(HC.out _ (Fr.refl NoT w1).drew HR.out.1).mono ?_
  rintro _ w2 ⟨rfl,hf2⟩
  have HF2:=hdq ((Fr.refl NoT w1).drew.trans hf2)
  try dsimp only
  refine hK _ _ (fun _ _=>HS.out _ HF2.out) ?_
  clear hK KK hf2
  try simp only[putsL]
  refine wpE_next 8 rfl (by kernel_rfl) (fun KK hK=>?_)
  go_simp
  go_at_call 109
  refine(HCB.out _ _ HF2.out HR.out.2.1).mono ?_
  rintro _ w3 ⟨rfl,hf3⟩
  have HF3:=hdq (HF2.out.trans hf3)
  try dsimp only
  refine hK _ _ (fun _ _=>HS.out _ HF3.out) ?_
  clear hK KK hf3
  try simp only[putsL]
  refine wpE_pu 9 ?_
  try simp only[putsL]
  refine wpE_done (by kernel_rfl) ?_
  have hk3:=HK1.out.fr0 HF3.out
  have z5:=hk3.cell 5
  have zl:=hk3.lt
  simp only[getsL]at z5
  go_wp2_with fail
  go_ret
  exact⟨by rw[putsA_app,List.append_nil];rfl,HF1.out.trans HF3.out⟩
 ·rw[if_neg (fun e=>hn (hne.1 e))]at HR ⊢
  have r5:=one_room (t:=⟨#[101,108,115,101]⟩) HR.out.2.2 (by decide)
  have HR5:=hdq r5
  have h0:(0:Int) < (n4:Int):=by omega
  clear r5
  go_enter Tryz.func173,Tryz.ntmps173
  go_wp2_with fail
  rw[←HW1.out]
  refine wp_region_E (TsS w.heap.size (.slice (some ⟨bA,oA,none⟩) 1 c2) (.slice A3 n3 c3) bA oA k1 (.slice B1 l1 q1) (.slice B2 l2 q2) at1) (fun _=>true) (by kernel_rfl) (HS.out _ (Fr.refl NoT w1).drew) (fun hHeld=>?_)
  refine wpE_pu 0 ?_
  try simp only[putsL]
  refine wpE_pu 1 ?_
  try simp only[putsL]
  refine wpE_take 2 (v:=?_) rfl (by kernel_rfl) (fun _ _ _ h=>h) hHeld (by rfl) ?_ ?_;rotate_left
  ·intro wz hSz;(try dsimp only[TsS]at hSz);go_simp;try with_reducible rfl
  try simp only[putsL]
  refine wpE_pu 3 ?_
  try simp only[putsL]
  refine wpE_take 4 (v:=?_) rfl (by kernel_rfl) (fun _ _ _ h=>h) hHeld (by rfl) ?_ ?_;rotate_left
  ·intro wz hSz;(try dsimp only[TsS]at hSz);go_simp;try with_reducible rfl
  try simp only[putsL]
  refine wpE_pu 6 ?_
  try simp only[putsL]
  refine wpE_take 7 (v:=?_) rfl (by kernel_rfl) (fun _ _ _ h=>h) hHeld (by rfl) ?_ ?_;rotate_left
  ·intro wz hSz;(try dsimp only[TsS]at hSz);go_simp;try with_reducible rfl
  try simp only[putsL]
  refine wpE_next 5 rfl (by kernel_rfl) (fun KK hK=>?_)
  go_simp
  go_at_call 207
  refine(HC.out _ (Fr.refl NoT w1).drew HR.out.1).mono ?_
  rintro _ w2 ⟨rfl,hf2⟩
  have HF2:=hdq ((Fr.refl NoT w1).drew.trans hf2)
  try dsimp only
  refine hK _ _ (fun _ _=>HS.out _ HF2.out) ?_
  clear hK KK hf2
  try simp only[putsL]
  refine wpE_next 8 rfl (by kernel_rfl) (fun KK hK=>?_)
  go_simp
  go_at_call 109
  refine(HCB.out _ _ HF2.out HR.out.2.1).mono ?_
  rintro _ w3 ⟨rfl,hf3⟩
  have HF3:=hdq (HF2.out.trans hf3)
  try dsimp only
  refine hK _ _ (fun _ _=>HS.out _ HF3.out) ?_
  clear hK KK hf3
  try simp only[putsL]
  refine wpE_pu 9 ?_
  try simp only[putsL]
  refine wpE_done (by kernel_rfl) ?_
  have hk3:=HK1.out.fr0 HF3.out
  have z5:=hk3.cell 5
  have zl:=hk3.lt
  simp only[getsL]at z5
  have HF4:=hdq (HF3.out.trans (Fr.refl NoT w3).drew)
  go_wp2_with fail
  refine wp_region_still_tail 4 (by kernel_rfl) (by kernel_rfl) ?_
  simp only[List.take_succ_cons,List.take_zero,List.drop_succ_cons,List.drop_zero]
  repeat still_step
  still_call (tput_q _ _ HR5.out.1 _)
  repeat still_step
  try refine wpStill_nil ?_
  go_wp2_with fail
  refine(HCE.out _ _ HF4.out HR5.out.2).mono ?_
  rintro _ w4 ⟨rfl,hf4⟩
  have HF5:=hdq (HF1.out.trans (HF4.out.trans hf4))
  clear hf4 z5 zl
  go_wp2_with fail
  go_ret
  exact⟨by rw[putsA_app,putsA_app,putsA_cons];rfl,HF5.out⟩
theorem txX_drop9:∀(xs:Exs) (i:Nat) {k nm n a at_ r},Exs.drop i xs= .cons k nm n a at_ r→((txX xs).map (arE 0))[i]?=some (innE k nm n (txX a))
 | .nil,i,_,_,_,_,_,_,h=>by cases i<;>simp[Exs.drop]at h
 | .cons k nm n a at_ r,0,_,_,_,_,_,_,h=>by
  simp only[Exs.drop]at h
  injection h with e0 e1 e2 e3 e4 e5
  subst e0 e1 e2 e3
  simp only[txX,List.map_cons,List.getElem?_cons_zero,tE0]
 | .cons k nm n a at_ r,i+1,_,_,_,_,_,_,h=>by
  simp only[Exs.drop]at h
  simp only[txX,List.map_cons,List.getElem?_cons_succ]
  exact txX_drop9 r i h
theorem ts_call (nm:ByteArray) (args:Exs) (cond:Cds) (body els:Sts) (ih:∀(i:Nat) (k:Int) (nm:ByteArray) (n:Int) (a:Exs) (at_:Int) (r:Exs),Exs.drop i args= .cons k nm n a at_ r→TE k nm n a):TS 9 nm args cond body els:=by
 intro at_ o w S Z A1 A2 A3 A4 c1 c2 c3 c4 he hS x1 x2 x3 x4 hlen
 have hlen:o.size+sumT ([99,97,108,108]::nm.data.toList:: [40]::(betw ((txX args).map (arE 0))++ [[41], [59]]))≤140737488355328:=hlen
 show Calls _ _ _ _ (TxP (putsA o ([99,97,108,108]::nm.data.toList:: [40]::(betw ((txX args).map (arE 0))++ [[41], [59]]))) w)
 obtain⟨TS,hTS⟩:=nmq ((txX args).map (arE 0))
 have hTL:TS.length=args.len:=by rw[hTS,List.length_map,txX_len]
 rw[←hTS]at hlen ⊢
 have r1:=one_room (t:=⟨#[99,97,108,108]⟩) hlen (by decide)
 have r2:=one_room r1.2 (by decide)
 have r3:=one_room (t:=⟨#[40]⟩) r2.2 (by decide)
 have r4:=putsA_room r3.2
 have r5:=one_room (t:=⟨#[41]⟩) r4 (by decide)
 have r6:=one_room (t:=⟨#[59]⟩) r5.2 (by decide)
 obtain⟨o3,ho3⟩:=nmq (putA (putA (putA o ⟨#[99,97,108,108]⟩) nm) ⟨#[40]⟩)
 rw[←ho3]at r3 r4 r5 r6
 have HO3:=hdq ho3
 have HR:=hdq (aiq r1.1 (aiq r2.1 (aiq r3.1 (aiq (show o3.size+sumT (betw TS)≤140737488355328 by have:=r3.2;rw[sumT_app]at this;omega) (aiq r5.1 r6.1)))))
 have hl:args.len≤9223372036854775807:=leq9 x1.1 x1.2.1.1
 obtain⟨w1,hw1⟩:=nmq (w.alloc (.cells #[.int .u8 9,.string nm,.slice A1 args.len c1,.slice A2 cond.len c2,.slice A3 body.len c3,.slice A4 els.len c4,.int .i64 at_] 39))
 have hf1:Fr NoT w w1:=by rw[hw1];exact(Fr.refl _ _).alloc _
 have hk1:Bk w1 w.heap.size 39 #[.int .u8 9,.string nm,.slice A1 args.len c1,.slice A2 cond.len c2,.slice A3 body.len c3,.slice A4 els.len c4,.int .i64 at_]:=by rw[hw1];exact Bk.new _ _ _
 have yl:=hk1.lt
 have HW1:=hdq hw1
 have HF1:=hdq hf1
 have HK1:=hdq hk1
 have HX:=hdq x1
 have HS:=hdq hS
 have HE:=hdq he
 have HI:=hdq ih
 have HTS:=hdq (aiq hTS hTL)
 obtain⟨n1,hn1⟩:=nmq args.len
 obtain⟨n2,hn2⟩:=nmq cond.len
 obtain⟨n3,hn3⟩:=nmq body.len
 obtain⟨n4,hn4⟩:=nmq els.len
 rw[←hn1,←hn2,←hn3,←hn4]at HW1 HK1 hk1 ⊢
 rw[←hn1]at hl
 have HM:=hdq hn1
 have y1:=hk1.cell 1
 simp only[getsL]at y1
 clear he hS x1 x2 x3 x4 hlen r1 r2 r3 r4 r5 r6 hn1 hn2 hn3 hn4 hw1 hf1 hk1 ih hTS hTL ho3
 go_enter Tryz.func173,Tryz.ntmps173
 go_wp2_with fail
 rw[←HW1.out]
 refine wp_region_still_tail 5 (by kernel_rfl) (by kernel_rfl) ?_
 simp only[List.take_succ_cons,List.take_zero,List.drop_succ_cons,List.drop_zero]
 repeat still_step
 still_call (tput_q _ _ HR.out.1 _)
 repeat still_step
 still_call (tput_q _ _ HR.out.2.1 _)
 repeat still_step
 try refine wpStill_nil ?_
 go_wp2_with fail
 refine(tput_any _ _ HR.out.2.2.1 _).mono ?_
 rintro _ _ ⟨rfl,rfl⟩
 rw[←HO3.out]
 clear y1 yl
 go_wp2_with fail
 go_loopw [0,5] (fun s i wr=>∃k:Nat,k≤n1∧i= .int .i64 k∧s= .string (putsA o3 (betw (TS.take k)))∧Hid (Fr NoT w1 wr)) (fun _ i _=>n1 - (intOf i).toNat)
 case atStart=>exact⟨0,Nat.zero_le _,rfl,rfl,(Fr.refl NoT w1).drew⟩
 case round=>
  obtain⟨k,hk,rfl,rfl,hb⟩:=hrel
  have hkr:=HK1.out.fr0 hb.out
  have z2:=hkr.cell 2
  have zl:=hkr.lt
  simp only[getsL]at z2
  by_cases hlt:k < n1
  ·obtain⟨a0,a1,a2,a3,a4,ar,hd⟩:=Exs.drop_cons (show k < args.len from by rw[←HM.out];exact hlt)
   obtain⟨b,oo,rfl,hat⟩:=HX.out.2.2 (by rw[←HM.out];omega)
   have hsm:SameS S w wr:=(HF1.out.trans hb.out).same fun b hb=>⟨HS.out b hb,id⟩
   have hat1:=(ExR.keep hsm hat).drop k
   rw[hd]at hat1
   obtain⟨B1,q1,s1,hn_1,hbS,d0,d1,d2,d3,d4⟩:=ExR.first9 hat1
   have hxr:b < wr.heap.size:=ltq (HS.out _ hbS) (HF1.out.trans hb.out).size
   have hlt':(k:Int) < (n1:Int):=by omega
   have hge:(0:Int)≤(k:Int):=by omega
   have htk:=txX_drop9 args k hd
   rw[←HTS.out.1]at htk
   have hfn:=betw_next htk
   have hfs:=betw_sum htk
   obtain⟨tt,htt⟩:=nmq (innE a0 a1 a2 (txX a3))
   have hone:=fun(o':ByteArray) hl=>HI.out k _ _ _ _ _ _ hd a4 o' wr S Z B1 q1 (HE.out.keep (HF1.out.trans hb.out).plain) (fun x hx=>ltq (HS.out x hx) (HF1.out.trans hb.out).size) s1 hn_1 hl
   rw[←htt]at hone hfn
   have HC:=hdq hone
   have HB:=hdq hb.out
   have hsz:=putsA_size (betw (TS.take k)) o3
   have hsz2:o3.size+sumT (betw (TS.take (k+1)))≤140737488355328:=leq9 (Nat.add_le_add_left hfs _) HR.out.2.2.2.1
   clear hd hat hat1 hb hbS hsm s1 hn_1 htk hfs htt hone hkr
   by_cases h0:k=0
   ·subst h0
    rw[if_pos rfl]at hfn
    rw[hfn]at hsz2
    have HN:=hdq (show putsA o3 (betw (TS.take (0+1)))=putsA (putsA o3 (betw (TS.take 0))) tt by rw[hfn];rfl)
    have HR1:=hdq (show(putsA o3 (betw (TS.take 0))).size +sumT tt≤140737488355328 from hsz2)
    have hz:¬(0:Int) < ((0:Nat):Int):=by decide
    simp only[Nat.zero_mul,Nat.add_zero]at d0 d1 d2 d3 d4
    clear hfn hsz hsz2
    go_wp2_with fail
    refine(HC.out _ HR1.out).mono ?_
    rintro _ w2 ⟨rfl,hf2⟩
    have HF:=hdq (HB.out.trans hf2)
    clear hf2 d0 d1 d2 d3 d4 z2 zl hxr
    go_wp2_with fail
    go_roundw
    case rel=>exact⟨0+1,by omega,by go_num,by rw[HN.out];rfl,HF⟩
    case measure=>simp[intOf];omega
   ·rw[if_neg h0]at hfn
    rw[hfn,sumT_app,sumT_app]at hsz2
    have HN:=hdq (show putsA o3 (betw (TS.take (k+1)))=putsA (putA (putsA o3 (betw (TS.take k))) ⟨#[44]⟩) tt by rw[hfn,putsA_app,putsA_app];rfl)
    have r8:=one_room (o:=putsA o3 (betw (TS.take k))) (t:=⟨#[44]⟩) (r:=tt) (M:=140737488355328) (by show _+sumT ([[44]]++tt)≤_;rw[sumT_app];omega) (by decide)
    have HR1:=hdq r8
    have hz:(0:Int) < (k:Int):=by omega
    clear hfn hsz hsz2 r8
    go_wp2_with fail
    refine(tput_any _ _ HR1.out.1 _).mono ?_
    rintro _ _ ⟨rfl,rfl⟩
    go_wp2_with fail
    refine(HC.out _ HR1.out.2).mono ?_
    rintro _ w2 ⟨rfl,hf2⟩
    have HF:=hdq (HB.out.trans hf2)
    clear hf2 d0 d1 d2 d3 d4 z2 zl hxr
    go_wp2_with fail
    go_roundw
    case rel=>exact⟨k+1,by omega,by go_num,by rw[HN.out],HF⟩
    case measure=>simp[intOf];omega
  ·have hlt':¬(k:Int) < (n1:Int):=by omega
   have HT:=hdq (show TS.take k=TS from List.take_of_length_le (by rw[HTS.out.2,←HM.out];omega))
   rw[HT.out]
   have HB:=hdq hb.out
   clear hb hkr
   go_wp2_with fail
   refine(tput_any _ _ HR.out.2.2.2.2.1 _).mono ?_
   rintro _ _ ⟨rfl,rfl⟩
   go_wp2_with fail
   refine(tput_any _ _ HR.out.2.2.2.2.2 _).mono ?_
   rintro _ _ ⟨rfl,rfl⟩
   go_wp2_with fail
   go_ret
   exact⟨by rw[putsA_cons,putsA_cons,putsA_cons,putsA_app,HO3.out];rfl,HF1.out.trans HB.out⟩
theorem ts_one (k:Int) (nm:ByteArray) (args:Exs) (cond:Cds) (body els:Sts) (at_:Int) (hk:okT k nm args cond body els at_=true) (ihb:TBl body) (ihe:TBl els):TS k nm args cond body els:=by
 simp only[okT,Bool.and_eq_true,Bool.or_eq_true,decide_eq_true_eq,beq_iff_eq]at hk
 obtain⟨⟨⟨⟨⟨⟨⟨⟨⟨⟨h1,h2⟩,h3⟩,h4⟩,h5⟩,h6⟩,h7⟩,h8⟩,h9⟩,h10⟩,h11⟩:=hk
 have ihx:=te_all args h8
 have ihc:=tc_all cond h9
 have hk:k=1∨k=2∨k=3∨k=4∨k=5∨k=6∨k=7∨k=8∨k=9:=by omega
 rcases hk with rfl|rfl|rfl|rfl|rfl|rfl|rfl|rfl|rfl
 ·exact ts_skip nm _ _ _ _
 ·obtain⟨k',nm',n',b',at',rfl⟩:=len1 (a:=args) (by simp[tabA,stShp]at h4;omega)
  exact ts_set nm k' nm' n' b' at' _ _ _ (ihx 0 _ _ _ _ _ _ rfl).1
 ·obtain⟨k1,nm1,n1,b1,at1,k2,nm2,n2,b2,at2,rfl⟩:=len2 (a:=args) (by simp[tabA,stShp]at h4;omega)
  exact ts_store nm k1 nm1 n1 b1 at1 k2 nm2 n2 b2 at2 _ _ _ (ihx 0 _ _ _ _ _ _ rfl).1 (ihx 1 _ _ _ _ _ _ rfl).1
 ·exact ts_input nm _ _ _ _
 ·obtain⟨k',b',o',at',rfl⟩:=lenC1 (a:=cond) (by simp[tabA,stShp]at h5;omega)
  exact ts_assume nm _ k' b' o' at' _ _ (ihc 0 _ _ _ _ _ rfl).1
 ·obtain⟨k',b',o',at',rfl⟩:=lenC1 (a:=cond) (by simp[tabA,stShp]at h5;omega)
  exact ts_assert nm _ k' b' o' at' _ _ (ihc 0 _ _ _ _ _ rfl).1
 ·obtain⟨k',b',o',at',rfl⟩:=lenC1 (a:=cond) (by simp[tabA,stShp]at h5;omega)
  exact ts_if nm _ k' b' o' at' _ _ (ihc 0 _ _ _ _ _ rfl).1 ihb ihe
 ·obtain⟨k',b',o',at',rfl⟩:=lenC1 (a:=cond) (by simp[tabA,stShp]at h5;omega)
  exact ts_while nm _ k' b' o' at' _ _ (ihc 0 _ _ _ _ _ rfl).1 ihb
 ·exact ts_call nm args _ _ _ fun i _ _ _ _ _ _ hd=>(ihx i _ _ _ _ _ _ hd).1
theorem ts_all:∀xs:Sts,okS xs=true→TSs xs
 | .nil,_=>fun i _ _ _ _ _ _ _ _ hd=>by cases i<;>simp[Sts.drop]at hd
 | .cons k nm args cond body els at_ rest,h=>fun i _ _ _ _ _ _ _ _ hd=>by
  have h':=h
  simp only[okS,Bool.and_eq_true]at h'
  cases i with
  |zero=>
   simp only[Sts.drop]at hd
   injection hd with e1 e2 e3 e4 e5 e6 e7 e8
   subst e1 e2 e3 e4 e5 e6
   exact ts_one k nm args cond body els at_ (by simp only[okT,Bool.and_eq_true];exact h'.1) (tbl_any body (ts_all body h'.1.1.2)) (tbl_any els (ts_all els h'.1.2))
  |succ i=>
   simp only[Sts.drop]at hd
   exact ts_all rest h'.2 i _ _ _ _ _ _ _ _ hd
theorem tbl_all (xs:Sts) (h:okS xs=true):TBl xs:=tbl_any xs (ts_all xs h)
end Go.Proofs.YtmopichdofgndaaGreatDoor
