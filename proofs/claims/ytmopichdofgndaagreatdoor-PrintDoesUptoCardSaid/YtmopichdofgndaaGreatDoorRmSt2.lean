/-
  ref10.mayStmt, kinds 4, 9, 5.
-/
import Derived.Test.YtmopichdofgndaaGreatDoorJnRm
set_option linter.unusedVariables false
set_option linter.unusedSimpArgs false
set_option maxHeartbeats 6400000
set_option maxRecDepth 100000
namespace Go.Proofs.YtmopichdofgndaaGreatDoor
open Go.RowKit Go.Shelf

theorem mst_k4 (nm:ByteArray) (args:Exs) (cond:Cds) (body els:Sts) (at_:Int) (w:World) (S:Nat→Prop) (Z:Prop) (A2 A3 A4 A5:Option Addr) (q2 q3 q4 q5:Nat) (hs:nm.size≤9223372036854775807) (hS:∀b,S b→b < w.heap.size) (hz1:szX args) (hz2:szC cond)
  (hx:SlR (fun b o=>ExR w S Z args b o) args.len 64 A2 q2) (hy:SlR (fun b o=>CdR w S Z cond b o) cond.len 64 A3 q3) (hl4:body.len≤9223372036854775807) (hl5:els.len≤9223372036854775807)
  (h4:∀W,Fr NoT w W→Calls Tryz.prog 105 #[.slice A4 body.len q4] W (EqPost (okS body) W)) (h5:∀W,Fr NoT w W→Calls Tryz.prog 105 #[.slice A5 els.len q5] W (EqPost (okS els) W)):
  Calls Tryz.prog 168 #[.agg #[.int .u8 4,.string nm,.slice A2 args.len q2,.slice A3 cond.len q3,.slice A4 body.len q4,.slice A5 els.len q5,.int .i64 at_]] w (EqPost (okT 4 nm args cond body els at_) w):=by
 have hl2:args.len≤9223372036854775807:=leq9 hx.1 hx.2.1.1
 have hl3:cond.len≤9223372036854775807:=leq9 hy.1 hy.2.1.1
 obtain⟨R,hR⟩:=nmq (okT 4 nm args cond body els at_)
 rw[←hR]
 have hnd:nameB nm.data.toList=true→(nm.toList== [])=false:=nmd_no
 have hR:R=((nameB nm.data.toList)&&((args.len:Int)==0)&&((cond.len:Int)==0)&&(body.len==0)&&(els.len==0)&&okX args&&okC cond&&okS body&&okS els):=hR.trans (by rfl)
 have hmx:=fun(W:World) (hf:Fr NoT w W)=>mexprs_any args W S Z A2 q2 0 (fun b h=>ltq (hS b h) hf.size) hz1 (hx.imp fun _ _ hx=>ExR.keep (hf.same fun b hb=>⟨hS b hb,id⟩) hx)
 obtain⟨l,hl⟩:=nmq args.len
 obtain⟨lc,hlc⟩:=nmq cond.len
 obtain⟨lb,hlb⟩:=nmq body.len
 obtain⟨le,hle⟩:=nmq els.len
 obtain⟨q,hq⟩:=nmq (nameB nm.data.toList)
 obtain⟨b,hb⟩:=nmq ((nm.toList== []))
 obtain⟨u,hu⟩:=nmq (okC cond)
 obtain⟨x4,hx4⟩:=nmq (okS body)
 obtain⟨x5,hx5⟩:=nmq (okS els)
 have hnm:=fun(W:World)=>rname_any nm hs W
 rw[←hl]at hl2 hmx
 rw[←hlc]at hl3
 rw[←hlb]at hl4 h4
 rw[←hle]at hl5 h5
 rw[←hq]at hnm hnd
 rw[←hb]at hnd
 rw[←hx4]at h4
 rw[←hx5]at h5
 obtain⟨v1,hv1⟩:=nmq ((((l:Int)==0)&&okX args))
 rw[←hv1]at hmx
 have hR2:R=(q&&v1&&((lc:Int)==0)&&u&&(lb==0)&&(le==0)&&x4&&x5):=by
  rw[hR,hv1,←hl,←hlc,←hlb,←hle,←hu,←hx4,←hx5,←hq]
  ac_rfl
 rw[←hl,←hlc,←hlb,←hle]
 have HR:=hdq hR2
 have HNM:=hdq hnm
 have HMV:=hdq hmx
 have H4:=hdq h4
 have H5:=hdq h5
 have HQ:=hdq hnd
 have HLC:=hdq hlc
 have HU:=hdq hu
 have HS:=hdq hS
 have eb:(nm.toList== [])=b:=hb.symm
 have eb2:(nm.toList != [])= !b:=by rw[hb];rfl
 have hf1:Fr NoT w (w.alloc (.cells #[.int .u8 4,.string nm,.slice A2 l q2,.slice A3 lc q3,.slice A4 lb q4,.slice A5 le q5,.int .i64 at_] 39)):=(Fr.refl _ _).alloc _
 have HF1:=hdq hf1
 have HB1:=hdq (Bk.new w 39 #[.int .u8 4,.string nm,.slice A2 l q2,.slice A3 lc q3,.slice A4 lb q4,.slice A5 le q5,.int .i64 at_])
 clear hf1 hR hR2 hmx h4 h5 hnd hlc hlb hle hl hu hS hb hnm hx hy hz1 hz2 hs hq hx4 hx5 hv1
 go_enter Tryz.func168,Tryz.ntmps168
 go_wp2_with fail
 refine(HNM.out _).mono ?_
 rintro _ w2 ⟨rfl,hb0⟩
 have hb:=Fr.below (T:=NoT) hb0
 have hk2:=HB1.out.fr0 hb
 have HF2:=hdq (HF1.out.trans hb)
 have c0:=hk2.cell 0
 have c2:=hk2.cell 2
 have c1:=hk2.cell 1
 have c3:=hk2.cell 3
 have c4:=hk2.cell 4
 have c5:=hk2.cell 5
 have hl1:=hk2.lt
 simp only[getsL]at c0 c1 c2 c3 c4 c5
 have HB2:=hdq hk2
 clear hb hk2
 clear hb0
 cases q
 ·have HF:=hdq (show R=false from by rw[HR.out];simp)
  clear HR
  go_wp2_with fail
  go_ret
  exact⟨by rw[HF.out];rfl,HF2.out⟩
 go_wp2_with fail
 refine(HMV.out _ HF2.out).mono ?_
 rintro _ w3 ⟨rfl,hb⟩
 clear c0 c1 c2 c3 c4 c5 hl1
 have hk3:=HB2.out.fr0 hb
 have HF3:=hdq (HF2.out.trans hb)
 have c0:=hk3.cell 0
 have c2:=hk3.cell 2
 have c1:=hk3.cell 1
 have c3:=hk3.cell 3
 have c4:=hk3.cell 4
 have c5:=hk3.cell 5
 have hl1:=hk3.lt
 simp only[getsL]at c0 c1 c2 c3 c4 c5
 have HB3:=hdq hk3
 clear hb hk3
 cases v1
 ·have HF:=hdq (show R=false from by rw[HR.out];simp)
  clear HR
  go_wp2_with fail
  go_ret
  exact⟨by rw[HF.out];rfl,HF3.out⟩
 have hcc:lc=0∨lc=1∨(lc≠0∧lc≠1):=by omega
 rcases hcc with rfl|rfl|⟨n0,n1⟩
 rotate_left
 ·have HF:=hdq (show R=false from by rw[HR.out];simp)
  clear HR
  go_wp2_with fail
  go_ret
  exact⟨by rw[HF.out];rfl,HF3.out⟩
 ·have e1:((lc:Int)==1)=false:=by simp;omega
  have e2:((lc:Int) != 0)=true:=by simp;omega
  have HF:=hdq (show R=false from by rw[HR.out,show((lc:Int)==0)=false from by simp;omega];simp)
  clear HR
  go_wp2_with fail
  go_ret
  exact⟨by rw[HF.out];rfl,HF3.out⟩
 have hu1:u=true:=by
  rw[HU.out]
  have:=HLC.out
  cases cond with
  |nil=>rfl
  |cons _ _ _ _ _=>simp[Cds.len]at this
 subst hu1
 by_cases hcb:lb=0
 rotate_left
 ·have e1:decide ((0:Int) < (lb:Int))=true:=by simp;omega
  have HF:=hdq (show R=false from by rw[HR.out,show(lb==0)=false from by simpa using hcb];simp)
  clear HR
  go_wp2_with fail
  go_ret
  exact⟨by rw[HF.out];rfl,HF3.out⟩
 subst hcb
 by_cases hce:le=0
 rotate_left
 ·have e2:decide ((0:Int) < (le:Int))=true:=by simp;omega
  have HF:=hdq (show R=false from by rw[HR.out,show(le==0)=false from by simpa using hce];simp)
  clear HR
  go_wp2_with fail
  go_ret
  exact⟨by rw[HF.out];rfl,HF3.out⟩
 subst hce
 go_wp2_with fail
 refine(H4.out _ HF3.out).mono ?_
 rintro _ w8 ⟨rfl,hb⟩
 clear c0 c1 c2 c3 c4 c5 hl1
 have hk8:=HB3.out.fr0 hb
 have HF8:=hdq (HF3.out.trans hb)
 have c0:=hk8.cell 0
 have c2:=hk8.cell 2
 have c1:=hk8.cell 1
 have c3:=hk8.cell 3
 have c4:=hk8.cell 4
 have c5:=hk8.cell 5
 have hl1:=hk8.lt
 simp only[getsL]at c0 c1 c2 c3 c4 c5
 have HB8:=hdq hk8
 clear hb hk8
 cases x4
 ·have HF:=hdq (show R=false from by rw[HR.out];simp)
  clear HR
  go_wp2_with fail
  go_ret
  exact⟨by rw[HF.out];rfl,HF8.out⟩
 go_wp2_with fail
 refine(H5.out _ HF8.out).mono ?_
 rintro _ w9 ⟨rfl,hb⟩
 have HF9:=hdq (HF8.out.trans hb)
 clear hb
 have HF:=hdq (show R=x5 from by rw[HR.out];simp)
 clear HR
 go_wp2_with fail
 go_ret
 exact⟨by rw[HF.out];rfl,HF9.out⟩
theorem mst_k9 (nm:ByteArray) (args:Exs) (cond:Cds) (body els:Sts) (at_:Int) (w:World) (S:Nat→Prop) (Z:Prop) (A2 A3 A4 A5:Option Addr) (q2 q3 q4 q5:Nat) (hs:nm.size≤9223372036854775807) (hS:∀b,S b→b < w.heap.size) (hz1:szX args) (hz2:szC cond)
  (hx:SlR (fun b o=>ExR w S Z args b o) args.len 64 A2 q2) (hy:SlR (fun b o=>CdR w S Z cond b o) cond.len 64 A3 q3) (hl4:body.len≤9223372036854775807) (hl5:els.len≤9223372036854775807)
  (h4:∀W,Fr NoT w W→Calls Tryz.prog 105 #[.slice A4 body.len q4] W (EqPost (okS body) W)) (h5:∀W,Fr NoT w W→Calls Tryz.prog 105 #[.slice A5 els.len q5] W (EqPost (okS els) W)):
  Calls Tryz.prog 168 #[.agg #[.int .u8 9,.string nm,.slice A2 args.len q2,.slice A3 cond.len q3,.slice A4 body.len q4,.slice A5 els.len q5,.int .i64 at_]] w (EqPost (okT 9 nm args cond body els at_) w):=by
 have hl2:args.len≤9223372036854775807:=leq9 hx.1 hx.2.1.1
 have hl3:cond.len≤9223372036854775807:=leq9 hy.1 hy.2.1.1
 obtain⟨R,hR⟩:=nmq (okT 9 nm args cond body els at_)
 rw[←hR]
 have hnd:nameB nm.data.toList=true→(nm.toList== [])=false:=nmd_no
 have hR:R=((nameB nm.data.toList)&&true&&((cond.len:Int)==0)&&(body.len==0)&&(els.len==0)&&okX args&&okC cond&&okS body&&okS els):=hR.trans (by rfl)
 have hmx:=fun(W:World) (hf:Fr NoT w W)=>mexprs_any args W S Z A2 q2 (args.len:Int) (fun b h=>ltq (hS b h) hf.size) hz1 (hx.imp fun _ _ hx=>ExR.keep (hf.same fun b hb=>⟨hS b hb,id⟩) hx)
 obtain⟨l,hl⟩:=nmq args.len
 obtain⟨lc,hlc⟩:=nmq cond.len
 obtain⟨lb,hlb⟩:=nmq body.len
 obtain⟨le,hle⟩:=nmq els.len
 obtain⟨q,hq⟩:=nmq (nameB nm.data.toList)
 obtain⟨b,hb⟩:=nmq ((nm.toList== []))
 obtain⟨u,hu⟩:=nmq (okC cond)
 obtain⟨x4,hx4⟩:=nmq (okS body)
 obtain⟨x5,hx5⟩:=nmq (okS els)
 have hnm:=fun(W:World)=>rname_any nm hs W
 rw[←hl]at hl2 hmx
 rw[←hlc]at hl3
 rw[←hlb]at hl4 h4
 rw[←hle]at hl5 h5
 rw[←hq]at hnm hnd
 rw[←hb]at hnd
 rw[←hx4]at h4
 rw[←hx5]at h5
 obtain⟨v1,hv1⟩:=nmq ((((l:Int)==(l:Int))&&okX args))
 rw[←hv1]at hmx
 have hR2:R=(q&&v1&&((lc:Int)==0)&&u&&(lb==0)&&(le==0)&&x4&&x5):=by
  rw[hR,hv1,←hlc,←hlb,←hle,←hu,←hx4,←hx5,←hq]
  rw[show((l:Int)==(l:Int))=true from by simp,Bool.true_and,Bool.and_true]
  ac_rfl
 rw[←hl,←hlc,←hlb,←hle]
 have HR:=hdq hR2
 have HNM:=hdq hnm
 have HMV:=hdq hmx
 have H4:=hdq h4
 have H5:=hdq h5
 have HQ:=hdq hnd
 have HLC:=hdq hlc
 have HU:=hdq hu
 have HS:=hdq hS
 have eb:(nm.toList== [])=b:=hb.symm
 have eb2:(nm.toList != [])= !b:=by rw[hb];rfl
 have hf1:Fr NoT w (w.alloc (.cells #[.int .u8 9,.string nm,.slice A2 l q2,.slice A3 lc q3,.slice A4 lb q4,.slice A5 le q5,.int .i64 at_] 39)):=(Fr.refl _ _).alloc _
 have HF1:=hdq hf1
 have HB1:=hdq (Bk.new w 39 #[.int .u8 9,.string nm,.slice A2 l q2,.slice A3 lc q3,.slice A4 lb q4,.slice A5 le q5,.int .i64 at_])
 clear hf1 hR hR2 hmx h4 h5 hnd hlc hlb hle hl hu hS hb hnm hx hy hz1 hz2 hs hq hx4 hx5 hv1
 go_enter Tryz.func168,Tryz.ntmps168
 go_wp2_with fail
 refine(HNM.out _).mono ?_
 rintro _ w2 ⟨rfl,hb0⟩
 have hb:=Fr.below (T:=NoT) hb0
 have hk2:=HB1.out.fr0 hb
 have HF2:=hdq (HF1.out.trans hb)
 have c0:=hk2.cell 0
 have c2:=hk2.cell 2
 have c1:=hk2.cell 1
 have c3:=hk2.cell 3
 have c4:=hk2.cell 4
 have c5:=hk2.cell 5
 have hl1:=hk2.lt
 simp only[getsL]at c0 c1 c2 c3 c4 c5
 have HB2:=hdq hk2
 clear hb hk2
 clear hb0
 cases q
 ·have HF:=hdq (show R=false from by rw[HR.out];simp)
  clear HR
  go_wp2_with fail
  go_ret
  exact⟨by rw[HF.out];rfl,HF2.out⟩
 go_wp2_with fail
 refine(HMV.out _ HF2.out).mono ?_
 rintro _ w3 ⟨rfl,hb⟩
 clear c0 c1 c2 c3 c4 c5 hl1
 have hk3:=HB2.out.fr0 hb
 have HF3:=hdq (HF2.out.trans hb)
 have c0:=hk3.cell 0
 have c2:=hk3.cell 2
 have c1:=hk3.cell 1
 have c3:=hk3.cell 3
 have c4:=hk3.cell 4
 have c5:=hk3.cell 5
 have hl1:=hk3.lt
 simp only[getsL]at c0 c1 c2 c3 c4 c5
 have HB3:=hdq hk3
 clear hb hk3
 cases v1
 ·have HF:=hdq (show R=false from by rw[HR.out];simp)
  clear HR
  go_wp2_with fail
  go_ret
  exact⟨by rw[HF.out];rfl,HF3.out⟩
 have hcc:lc=0∨lc=1∨(lc≠0∧lc≠1):=by omega
 rcases hcc with rfl|rfl|⟨n0,n1⟩
 rotate_left
 ·have HF:=hdq (show R=false from by rw[HR.out];simp)
  clear HR
  go_wp2_with fail
  go_ret
  exact⟨by rw[HF.out];rfl,HF3.out⟩
 ·have e1:((lc:Int)==1)=false:=by simp;omega
  have e2:((lc:Int) != 0)=true:=by simp;omega
  have HF:=hdq (show R=false from by rw[HR.out,show((lc:Int)==0)=false from by simp;omega];simp)
  clear HR
  go_wp2_with fail
  go_ret
  exact⟨by rw[HF.out];rfl,HF3.out⟩
 have hu1:u=true:=by
  rw[HU.out]
  have:=HLC.out
  cases cond with
  |nil=>rfl
  |cons _ _ _ _ _=>simp[Cds.len]at this
 subst hu1
 by_cases hcb:lb=0
 rotate_left
 ·have e1:decide ((0:Int) < (lb:Int))=true:=by simp;omega
  have HF:=hdq (show R=false from by rw[HR.out,show(lb==0)=false from by simpa using hcb];simp)
  clear HR
  go_wp2_with fail
  go_ret
  exact⟨by rw[HF.out];rfl,HF3.out⟩
 subst hcb
 by_cases hce:le=0
 rotate_left
 ·have e2:decide ((0:Int) < (le:Int))=true:=by simp;omega
  have HF:=hdq (show R=false from by rw[HR.out,show(le==0)=false from by simpa using hce];simp)
  clear HR
  go_wp2_with fail
  go_ret
  exact⟨by rw[HF.out];rfl,HF3.out⟩
 subst hce
 go_wp2_with fail
 refine(H4.out _ HF3.out).mono ?_
 rintro _ w8 ⟨rfl,hb⟩
 clear c0 c1 c2 c3 c4 c5 hl1
 have hk8:=HB3.out.fr0 hb
 have HF8:=hdq (HF3.out.trans hb)
 have c0:=hk8.cell 0
 have c2:=hk8.cell 2
 have c1:=hk8.cell 1
 have c3:=hk8.cell 3
 have c4:=hk8.cell 4
 have c5:=hk8.cell 5
 have hl1:=hk8.lt
 simp only[getsL]at c0 c1 c2 c3 c4 c5
 have HB8:=hdq hk8
 clear hb hk8
 cases x4
 ·have HF:=hdq (show R=false from by rw[HR.out];simp)
  clear HR
  go_wp2_with fail
  go_ret
  exact⟨by rw[HF.out];rfl,HF8.out⟩
 go_wp2_with fail
 refine(H5.out _ HF8.out).mono ?_
 rintro _ w9 ⟨rfl,hb⟩
 have HF9:=hdq (HF8.out.trans hb)
 clear hb
 have HF:=hdq (show R=x5 from by rw[HR.out];simp)
 clear HR
 go_wp2_with fail
 go_ret
 exact⟨by rw[HF.out];rfl,HF9.out⟩
theorem mst_k5 (nm:ByteArray) (args:Exs) (cond:Cds) (body els:Sts) (at_:Int) (w:World) (S:Nat→Prop) (Z:Prop) (A2 A3 A4 A5:Option Addr) (q2 q3 q4 q5:Nat) (hs:nm.size≤9223372036854775807) (hS:∀b,S b→b < w.heap.size) (hz1:szX args) (hz2:szC cond)
  (hx:SlR (fun b o=>ExR w S Z args b o) args.len 64 A2 q2) (hy:SlR (fun b o=>CdR w S Z cond b o) cond.len 64 A3 q3) (hl4:body.len≤9223372036854775807) (hl5:els.len≤9223372036854775807)
  (h4:∀W,Fr NoT w W→Calls Tryz.prog 105 #[.slice A4 body.len q4] W (EqPost (okS body) W)) (h5:∀W,Fr NoT w W→Calls Tryz.prog 105 #[.slice A5 els.len q5] W (EqPost (okS els) W)):
  Calls Tryz.prog 168 #[.agg #[.int .u8 5,.string nm,.slice A2 args.len q2,.slice A3 cond.len q3,.slice A4 body.len q4,.slice A5 els.len q5,.int .i64 at_]] w (EqPost (okT 5 nm args cond body els at_) w):=by
 have hl2:args.len≤9223372036854775807:=leq9 hx.1 hx.2.1.1
 have hl3:cond.len≤9223372036854775807:=leq9 hy.1 hy.2.1.1
 obtain⟨R,hR⟩:=nmq (okT 5 nm args cond body els at_)
 rw[←hR]
 have hnd:nameB nm.data.toList=true→(nm.toList== [])=false:=nmd_no
 have hR:R=(((nm.toList== []))&&((args.len:Int)==0)&&((cond.len:Int)==1)&&(body.len==0)&&(els.len==0)&&okX args&&okC cond&&okS body&&okS els):=hR.trans (by rfl)
 have hmx:=fun(W:World) (hf:Fr NoT w W)=>mexprs_any args W S Z A2 q2 0 (fun b h=>ltq (hS b h) hf.size) hz1 (hx.imp fun _ _ hx=>ExR.keep (hf.same fun b hb=>⟨hS b hb,id⟩) hx)
 have hmc:=fun(a0:Int) (a1:Exs) (a2:Cds) (a3:Int) (ar:Cds) (hd:Cds.drop 0 cond= .cons a0 a1 a2 a3 ar) (W:World) (A2 A3:Option Addr) (q2 q3:Nat) (hf:Fr NoT w W)=>mcond_any a0 a1 a2 a3 W S Z A2 A3 q2 q3 (fun b h=>ltq (hS b h) hf.size) (szC_drop 0 hz2 hd).1 (szC_drop 0 hz2 hd).2
 have hrd:=fun(a0:Int) (a1:Exs) (a2:Cds) (a3:Int) (ar:Cds) (hd:Cds.drop 0 cond= .cons a0 a1 a2 a3 ar)=>hy.2.2 (by have:=congrArg Cds.len hd;simp only[Cds.drop,Cds.len]at this;omega)
 have HMC:=hdq hmc
 have HY:=hdq hy
 obtain⟨l,hl⟩:=nmq args.len
 obtain⟨lc,hlc⟩:=nmq cond.len
 obtain⟨lb,hlb⟩:=nmq body.len
 obtain⟨le,hle⟩:=nmq els.len
 obtain⟨q,hq⟩:=nmq (nameB nm.data.toList)
 obtain⟨b,hb⟩:=nmq ((nm.toList== []))
 obtain⟨u,hu⟩:=nmq (okC cond)
 obtain⟨x4,hx4⟩:=nmq (okS body)
 obtain⟨x5,hx5⟩:=nmq (okS els)
 have hnm:=fun(W:World)=>rname_any nm hs W
 rw[←hl]at hl2 hmx
 rw[←hlc]at hl3
 rw[←hlb]at hl4 h4
 rw[←hle]at hl5 h5
 rw[←hq]at hnm hnd
 rw[←hb]at hnd
 rw[←hx4]at h4
 rw[←hx5]at h5
 obtain⟨v1,hv1⟩:=nmq ((((l:Int)==0)&&okX args))
 rw[←hv1]at hmx
 have hR2:R=(b&&v1&&((lc:Int)==1)&&u&&(lb==0)&&(le==0)&&x4&&x5):=by
  rw[hR,hv1,←hl,←hlc,←hlb,←hle,←hu,←hx4,←hx5,←hb]
  ac_rfl
 rw[←hl,←hlc,←hlb,←hle]
 have HR:=hdq hR2
 have HNM:=hdq hnm
 have HMV:=hdq hmx
 have H4:=hdq h4
 have H5:=hdq h5
 have HQ:=hdq hnd
 have HLC:=hdq hlc
 have HU:=hdq hu
 have HS:=hdq hS
 have eb:(nm.toList== [])=b:=hb.symm
 have eb2:(nm.toList != [])= !b:=by rw[hb];rfl
 have hf1:Fr NoT w (w.alloc (.cells #[.int .u8 5,.string nm,.slice A2 l q2,.slice A3 lc q3,.slice A4 lb q4,.slice A5 le q5,.int .i64 at_] 39)):=(Fr.refl _ _).alloc _
 have HF1:=hdq hf1
 have HB1:=hdq (Bk.new w 39 #[.int .u8 5,.string nm,.slice A2 l q2,.slice A3 lc q3,.slice A4 lb q4,.slice A5 le q5,.int .i64 at_])
 clear hf1 hR hR2 hmx h4 h5 hnd hlc hlb hle hl hu hS hb hnm hx hy hz1 hz2 hs hq hx4 hx5 hv1
 go_enter Tryz.func168,Tryz.ntmps168
 go_wp2_with fail
 refine(HNM.out _).mono ?_
 rintro _ w2 ⟨rfl,hb0⟩
 have hb:=Fr.below (T:=NoT) hb0
 have hk2:=HB1.out.fr0 hb
 have HF2:=hdq (HF1.out.trans hb)
 have c0:=hk2.cell 0
 have c2:=hk2.cell 2
 have c1:=hk2.cell 1
 have c3:=hk2.cell 3
 have c4:=hk2.cell 4
 have c5:=hk2.cell 5
 have hl1:=hk2.lt
 simp only[getsL]at c0 c1 c2 c3 c4 c5
 have HB2:=hdq hk2
 clear hb hk2
 clear hb0
 have hqb:q=true∨(q=false∧b=false)∨(q=false∧b=true):=by cases q<;>cases b<;>simp
 rcases hqb with rfl|⟨rfl,rfl⟩|⟨rfl,rfl⟩
 ·have hbf:=HQ.out rfl
  subst hbf
  have HF:=hdq (show R=false from by rw[HR.out];simp)
  clear HR
  go_wp2_with fail
  go_ret
  exact⟨by rw[HF.out];rfl,HF2.out⟩
 ·have HF:=hdq (show R=false from by rw[HR.out];simp)
  clear HR
  go_wp2_with fail
  go_ret
  exact⟨by rw[HF.out];rfl,HF2.out⟩
 go_wp2_with fail
 refine(HMV.out _ HF2.out).mono ?_
 rintro _ w3 ⟨rfl,hb⟩
 clear c0 c1 c2 c3 c4 c5 hl1
 have hk3:=HB2.out.fr0 hb
 have HF3:=hdq (HF2.out.trans hb)
 have c0:=hk3.cell 0
 have c2:=hk3.cell 2
 have c1:=hk3.cell 1
 have c3:=hk3.cell 3
 have c4:=hk3.cell 4
 have c5:=hk3.cell 5
 have hl1:=hk3.lt
 simp only[getsL]at c0 c1 c2 c3 c4 c5
 have HB3:=hdq hk3
 clear hb hk3
 cases v1
 ·have HF:=hdq (show R=false from by rw[HR.out];simp)
  clear HR
  go_wp2_with fail
  go_ret
  exact⟨by rw[HF.out];rfl,HF3.out⟩
 by_cases hcc:lc=1
 rotate_left
 ·have e1:((lc:Int)==1)=false:=by simp;omega
  have HF:=hdq (show R=false from by rw[HR.out,show((lc:Int)==1)=false from by simp;omega];simp)
  clear HR
  go_wp2_with fail
  go_ret
  exact⟨by rw[HF.out];rfl,HF3.out⟩
 subst hcc
 obtain⟨a0,a1,a2,a3,ar,hd⟩:=Cds.drop_cons (show 0 < cond.len from by rw[←HLC.out];omega)
 obtain⟨b',o',rfl,hat⟩:=HY.out.2.2 (by rw[←HLC.out];omega)
 have hat1:=(CdR.keep (HF3.out.same fun b hb=>⟨HS.out b hb,id⟩) hat).drop 0
 rw[hd]at hat1
 obtain⟨⟨hbS,_,r0,r1,d0,d3⟩,⟨A2',p2,d1,s2⟩,⟨A3',p3,d2,s3⟩,_⟩:=hat1
 have hxr:b' < w3.heap.size:=ltq (HS.out _ hbS) HF3.out.size
 have hone:=HMC.out a0 a1 a2 a3 ar hd w3 A2' A3' p2 p3 HF3.out s2 s3
 have hu1:u=okD a0 a1 a2 a3:=by
  rw[HU.out]
  have h1:=HLC.out
  cases cond with
  |nil=>simp[Cds.drop]at hd
  |cons z0 z1 z2 z3 zr=>
   simp only[Cds.drop]at hd
   injection hd with e0 e1 e2 e3 e4
   subst e0 e1 e2 e3 e4
   cases zr with
   |nil=>exact(show okC (.cons z0 z1 z2 z3 .nil)=(okD z0 z1 z2 z3&&true)from rfl).trans (Bool.and_true _)
   |cons _ _ _ _ _=>simp only[Cds.len]at h1;omega
 rw[←hu1]at hone
 have H1:=hdq hone
 have z0:o'+0*4=o':=by omega
 rw[z0]at d0 d1 d2 d3
 clear hone hu1 hat hbS s2 s3 r0 r1 z0 HMC
 go_wp2_with fail
 refine H1.out.mono ?_
 rintro _ w4 ⟨rfl,hb⟩
 clear c0 c1 c2 c3 c4 c5 hl1 d0 d1 d2 d3 hxr
 have hk4:=HB3.out.fr0 hb
 have HF4:=hdq (HF3.out.trans hb)
 have c0:=hk4.cell 0
 have c2:=hk4.cell 2
 have c1:=hk4.cell 1
 have c3:=hk4.cell 3
 have c4:=hk4.cell 4
 have c5:=hk4.cell 5
 have hl1:=hk4.lt
 simp only[getsL]at c0 c1 c2 c3 c4 c5
 have HB4:=hdq hk4
 clear hb hk4
 cases u
 ·have HF:=hdq (show R=false from by rw[HR.out];simp)
  clear HR
  go_wp2_with fail
  go_ret
  exact⟨by rw[HF.out];rfl,HF4.out⟩
 by_cases hcb:lb=0
 rotate_left
 ·have e1:decide ((0:Int) < (lb:Int))=true:=by simp;omega
  have HF:=hdq (show R=false from by rw[HR.out,show(lb==0)=false from by simpa using hcb];simp)
  clear HR
  go_wp2_with fail
  go_ret
  exact⟨by rw[HF.out];rfl,HF4.out⟩
 subst hcb
 by_cases hce:le=0
 rotate_left
 ·have e2:decide ((0:Int) < (le:Int))=true:=by simp;omega
  have HF:=hdq (show R=false from by rw[HR.out,show(le==0)=false from by simpa using hce];simp)
  clear HR
  go_wp2_with fail
  go_ret
  exact⟨by rw[HF.out];rfl,HF4.out⟩
 subst hce
 go_wp2_with fail
 refine(H4.out _ HF4.out).mono ?_
 rintro _ w8 ⟨rfl,hb⟩
 clear c0 c1 c2 c3 c4 c5 hl1
 have hk8:=HB4.out.fr0 hb
 have HF8:=hdq (HF4.out.trans hb)
 have c0:=hk8.cell 0
 have c2:=hk8.cell 2
 have c1:=hk8.cell 1
 have c3:=hk8.cell 3
 have c4:=hk8.cell 4
 have c5:=hk8.cell 5
 have hl1:=hk8.lt
 simp only[getsL]at c0 c1 c2 c3 c4 c5
 have HB8:=hdq hk8
 clear hb hk8
 cases x4
 ·have HF:=hdq (show R=false from by rw[HR.out];simp)
  clear HR
  go_wp2_with fail
  go_ret
  exact⟨by rw[HF.out];rfl,HF8.out⟩
 go_wp2_with fail
 refine(H5.out _ HF8.out).mono ?_
 rintro _ w9 ⟨rfl,hb⟩
 have HF9:=hdq (HF8.out.trans hb)
 clear hb
 have HF:=hdq (show R=x5 from by rw[HR.out];simp)
 clear HR
 go_wp2_with fail
 go_ret
 exact⟨by rw[HF.out];rfl,HF9.out⟩
end Go.Proofs.YtmopichdofgndaaGreatDoor
