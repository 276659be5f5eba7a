/-
  print's writer: statements written, case by case.
-/
import Derived.Test.YtmopichdofgndaaGreatDoorJnPnW
set_option linter.unusedVariables false
set_option linter.unusedSimpArgs false
set_option maxHeartbeats 3200000
set_option maxRecDepth 100000
namespace Go.Proofs.YtmopichdofgndaaGreatDoor
open Go.RowKit Go.Shelf

section
variable {B b:Nat} {v:Value} {l:List UInt8} {wd:Bool} {w:World} {S:Nat→Prop} {Z:Prop} {A1 A2 A3 A4:Option Addr} {c1 c2 c3 c4 m1 m2 m3 m4:Nat}
theorem room2 {s:List UInt8×Bool} {a c:Tx} {n:Nat} (h:s.1.length+sumT (a++c)≤n):s.1.length+sumT a≤n∧(putsT s a).1.length +sumT c≤n:=⟨by rw[sumT_app]at h;omega,putsT_room h⟩
structure SIn (W w1:World) (b:Nat) (v1:Value) (n:Nat) (cs:Array Value) (B:Nat) (S:Nat→Prop) (w:World):Prop where
 k1:Bk w1 n 88 #[.pointer (some ⟨b,0,none⟩)]
 k0:Bk w1 (n+1) 39 cs
 n1:¬Own b v1 n
 tb:Tb B w1
 same:SameS S w w1
theorem SIn.cells {W w1:World} {b:Nat} {v1:Value} {n:Nat} {y0 y1 y2 y3 y4 y5 y6:Value} {B:Nat} {S:Nat→Prop} {w:World} (h:SIn W w1 b v1 n #[y0,y1,y2,y3,y4,y5,y6] B S w):w1.cell? ⟨n,0,none⟩=some (.pointer (some ⟨b,0,none⟩))∧n < w1.heap.size∧w1.cell? ⟨n+1,0,none⟩=some y0∧w1.cell? ⟨n+1,1,none⟩=some y1∧w1.cell? ⟨n+1,2,none⟩=some y2∧w1.cell? ⟨n+1,3,none⟩=some y3∧w1.cell? ⟨n+1,4,none⟩=some y4∧w1.cell? ⟨n+1,5,none⟩=some y5∧w1.cell? ⟨n+1,6,none⟩=some y6∧n+1 < w1.heap.size:=
 ⟨h.k1.cell 0,h.k1.lt,h.k0.cell 0,h.k0.cell 1,h.k0.cell 2,h.k0.cell 3,h.k0.cell 4,h.k0.cell 5,h.k0.cell 6,h.k0.lt⟩
theorem stmt_in {B b:Nat} {v:Value} {l:List UInt8} {wd:Bool} {w:World} {S:Nat→Prop} (h:WrAt B b v l wd w) (ht:Tb B w) (hS:∀x,S x→x < B) (cs:Array Value) {W:World} (hW:W=(w.alloc (.cells #[.pointer (some ⟨b,0,none⟩)] 88)).alloc (.cells cs 39)):
  Fr NoT w W∧WrAt B b v l wd W∧W.heap.size=w.heap.size+1+1∧∀w1 v1,Went b v v1 W w1→SIn W w1 b v1 w.heap.size cs B S w:=by
 have hf:Fr NoT w W:=by rw[hW];exact((Fr.refl _ _).alloc _).alloc _
 have hk1:Bk W w.heap.size 88 #[.pointer (some ⟨b,0,none⟩)]:=by rw[hW];exact(Bk.new w _ _).alloc _
 have hk0:Bk W (w.heap.size+1) 39 cs:=by rw[hW];exact Bk.new_at _ _ _ (by simp)
 refine⟨hf,h.fr hf,by rw[hW];simp,fun w1 v1 hg=>⟨(hg.bk hk1 (h.new (lrq _))).1,(hg.bk hk0 (h.new (by omega))).1,(hg.bk hk1 (h.new (lrq _))).2,(ht.fr hf h.base).went hg (h.fr hf),(hf.same fun x hx=>⟨ltq (hS x hx) h.base,id⟩).trans (hg.same (h.fr hf) hS)⟩⟩
theorem stmt_pre (h:WrAt B b v l wd w) (ht:Tb B w) (hS:∀x,S x→x < B) (cs:Array Value):∃W,Hid (W=(w.alloc (.cells #[.pointer (some ⟨b,0,none⟩)] 88)).alloc (.cells cs 39))∧Hid (Fr NoT w W)∧Hid (∀w1 v1,Went b v v1 W w1→SIn W w1 b v1 w.heap.size cs B S w)∧Hid (W.heap.size=w.heap.size+1+1)∧Hid (WrAt B b v l wd W∧Went b v v W W):=by
 obtain⟨W,hW⟩:=nmq ((w.alloc (.cells #[.pointer (some ⟨b,0,none⟩)] 88)).alloc (.cells cs 39))
 obtain⟨hf,hw0,hsz,hB⟩:=stmt_in (S:=S) h ht hS _ hW
 exact⟨W,hW,hf,hB,hsz,hw0,Went.refl b v W⟩
theorem txX_drop:∀(xs:Exs) (i:Nat) {k nm n args at_ r},Exs.drop i xs= .cons k nm n args at_ r→(txX xs)[i]?=some (lvlE k,innE k nm n (txX args))
 | .nil,i,_,_,_,_,_,_,h=>by cases i<;>simp[Exs.drop]at h
 | .cons ..,0,_,_,_,_,_,_,h=>by
  simp only[Exs.drop]at h
  injection h with e1 e2 e3 e4 e5 e6
  subst e1 e2 e3 e4
  rfl
 | .cons _ _ _ _ _ rest,i+1,_,_,_,_,_,_,h=>by
  simp only[Exs.drop]at h
  simp only[txX,List.getElem?_cons_succ]
  exact txX_drop rest i h
set_option maxRecDepth 100000
set_option maxHeartbeats 1600000
theorem ps_skip (nm:ByteArray) (at_:Int) (T0:Tx) (hT0:T0= [[115,107,105,112]]) (T1:Tx) (hT1:T1= [[59]]) (h:WrAt B b v l wd w) (ht:Tb B w) (hS:∀x,S x→x < B)
  (hlen:(l,wd).1.length +sumT ((T0++T1))≤140737488355328):
  Calls Tryz.prog 103 #[.pointer (some ⟨b,0,none⟩),.agg #[.int .u8 1,.string nm,.slice A1 m1 c1,.slice A2 m2 c2,.slice A3 m3 c3,.slice A4 m4 c4,.int .i64 at_]] w (PutW B b v (putsT (l,wd) ((T0++T1))) (.tuple #[]) w):=by
 obtain⟨TT,hTT⟩:∃y:Tx,y=(T0++T1):=⟨_,rfl⟩
 rw[←hTT]
 obtain⟨W,HWE,HF,HB,HSZ,H0⟩:=stmt_pre (S:=S) h ht hS #[.int .u8 1,.string nm,.slice A1 m1 c1,.slice A2 m2 c2,.slice A3 m3 c3,.slice A4 m4 c4,.int .i64 at_]
 have hent:Enters Tryz.prog 164:=enters_of Tryz.func164 (by kernel_rfl) rfl
 have HENT:=hdq hent
 unfold Enters at hent
 have HS:=hdq hS
 have HTT:=hdq hTT
 have HQ:=hdq hlen
 have HT0:=hdq hT0
 have HT1:=hdq hT1
 clear h ht hS hlen hTT hT0 hT1
 go_enter Tryz.func103,Tryz.ntmps103
 have hin:=HB.out W v H0.out.2
 have HC:=hdq (put1 H0.out.1 ⟨#[115,107,105,112]⟩ ([115,107,105,112]) rfl (by decide) (by have:=(room2 (s:=(l,wd)) HQ.out).1;rw[HT0.out]at this;exact this))
 rw[←HT0.out]at HC
 rw[HSZ.out]at HC
 clear hin
 go_wp2_with fail
 rw[←HWE.out]
 refine HC.out.mono ?_
 rintro _ w1 ⟨v1,rfl,hh,hg⟩
 have H1:=hdq (aiq hh (H0.out.2.trans hg))
 clear hh hg HC
 have hin:=HB.out w1 v1 H1.out.2
 obtain⟨z0,zl,x0,x1,x2,x3,x4,x5,x6,xl⟩:=hin.cells
 have HC:=hdq (put1 H1.out.1 ⟨#[59]⟩ ([59]) rfl (by decide) (by have:=(room2 (s:=(l,wd)) HQ.out).2;rw[HT1.out]at this;exact this))
 rw[←HT1.out]at HC
 clear hin
 go_wp2_with fail
 refine HC.out.mono ?_
 rintro _ w2 ⟨v2,rfl,hh,hg⟩
 have H2:=hdq (aiq hh (H1.out.2.trans hg))
 clear hh hg HC z0 zl x0 x1 x2 x3 x4 x5 x6 xl
 have hin:=HB.out w2 v2 H2.out.2
 obtain⟨z0,zl,-,-,-,-,-,x5,-,xl⟩:=hin.cells
 clear hin
 go_wp2_with fail
 first|go_end0|go_ret
 exact⟨v2,rfl,by rw[HTT.out];exact H2.out.1.puts,(Went.of (b:=b) (v:=v) HF.out).trans H2.out.2⟩
theorem ps_input (nm:ByteArray) (at_:Int) (T0:Tx) (hT0:T0= [[105,110,112,117,116],nm.data.toList]) (T1:Tx) (hT1:T1= [[59]]) (h:WrAt B b v l wd w) (ht:Tb B w) (hS:∀x,S x→x < B) (hnm:nm.data.toList≠ [])
  (hlen:(l,wd).1.length +sumT ((T0++T1))≤140737488355328):
  Calls Tryz.prog 103 #[.pointer (some ⟨b,0,none⟩),.agg #[.int .u8 4,.string nm,.slice A1 m1 c1,.slice A2 m2 c2,.slice A3 m3 c3,.slice A4 m4 c4,.int .i64 at_]] w (PutW B b v (putsT (l,wd) ((T0++T1))) (.tuple #[]) w):=by
 obtain⟨TT,hTT⟩:∃y:Tx,y=(T0++T1):=⟨_,rfl⟩
 rw[←hTT]
 obtain⟨W,HWE,HF,HB,HSZ,H0⟩:=stmt_pre (S:=S) h ht hS #[.int .u8 4,.string nm,.slice A1 m1 c1,.slice A2 m2 c2,.slice A3 m3 c3,.slice A4 m4 c4,.int .i64 at_]
 have hent:Enters Tryz.prog 164:=enters_of Tryz.func164 (by kernel_rfl) rfl
 have HENT:=hdq hent
 unfold Enters at hent
 have HS:=hdq hS
 have HTT:=hdq hTT
 have HQ:=hdq hlen
 have HT0:=hdq hT0
 have HT1:=hdq hT1
 have HNM:=hdq hnm
 clear h ht hS hlen hTT hT0 hT1 hnm
 go_enter Tryz.func103,Tryz.ntmps103
 have hin:=HB.out W v H0.out.2
 have HC:=hdq (put2 H0.out.1 ⟨#[105,110,112,117,116]⟩ nm ([105,110,112,117,116]) nm.data.toList rfl rfl (by decide) HNM.out (by have:=(room2 (s:=(l,wd)) HQ.out).1;rw[HT0.out]at this;exact this))
 rw[←HT0.out]at HC
 rw[HSZ.out]at HC
 clear hin
 go_wp2_with fail
 rw[←HWE.out]
 refine HC.out.mono ?_
 rintro _ w1 ⟨v1,rfl,hh,hg⟩
 have H1:=hdq (aiq hh (H0.out.2.trans hg))
 clear hh hg HC
 have hin:=HB.out w1 v1 H1.out.2
 obtain⟨z0,zl,x0,x1,x2,x3,x4,x5,x6,xl⟩:=hin.cells
 have HC:=hdq (put1 H1.out.1 ⟨#[59]⟩ ([59]) rfl (by decide) (by have:=(room2 (s:=(l,wd)) HQ.out).2;rw[HT1.out]at this;exact this))
 rw[←HT1.out]at HC
 clear hin
 go_wp2_with fail
 refine HC.out.mono ?_
 rintro _ w2 ⟨v2,rfl,hh,hg⟩
 have H2:=hdq (aiq hh (H1.out.2.trans hg))
 clear hh hg HC z0 zl x0 x1 x2 x3 x4 x5 x6 xl
 have hin:=HB.out w2 v2 H2.out.2
 obtain⟨z0,zl,-,-,-,-,-,x5,-,xl⟩:=hin.cells
 clear hin
 go_wp2_with fail
 first|go_end0|go_ret
 exact⟨v2,rfl,by rw[HTT.out];exact H2.out.1.puts,(Went.of (b:=b) (v:=v) HF.out).trans H2.out.2⟩
theorem ps_assume (nm:ByteArray) (at_:Int) (kc:Int) (ac:Exs) (oc:Cds) (atc:Int) (T0:Tx) (hT0:T0=([[97,115,115,117,109,101], [40]]++(arC 0 (hgtC kc,innC kc (txX ac) (txC oc))++ [[41]]))) (T1:Tx) (hT1:T1= [[59]]) (h:WrAt B b v l wd w) (ht:Tb B w) (hS:∀x,S x→x < B) (hc:SlR (fun b o=>CdR w S Z (.cons kc ac oc atc .nil) b o) 1 64 A2 c2) (ihc:PC kc ac oc)
  (hlen:(l,wd).1.length +sumT ((T0++T1))≤140737488355328):
  Calls Tryz.prog 103 #[.pointer (some ⟨b,0,none⟩),.agg #[.int .u8 5,.string nm,.slice A1 m1 c1,.slice A2 1 c2,.slice A3 m3 c3,.slice A4 m4 c4,.int .i64 at_]] w (PutW B b v (putsT (l,wd) ((T0++T1))) (.tuple #[]) w):=by
 obtain⟨TT,hTT⟩:∃y:Tx,y=(T0++T1):=⟨_,rfl⟩
 rw[←hTT]
 obtain⟨W,HWE,HF,HB,HSZ,H0⟩:=stmt_pre (S:=S) h ht hS #[.int .u8 5,.string nm,.slice A1 m1 c1,.slice A2 1 c2,.slice A3 m3 c3,.slice A4 m4 c4,.int .i64 at_]
 have hent:Enters Tryz.prog 164:=enters_of Tryz.func164 (by kernel_rfl) rfl
 have HENT:=hdq hent
 unfold Enters at hent
 have HS:=hdq hS
 have HTT:=hdq hTT
 have HQ:=hdq hlen
 have HT0:=hdq hT0
 have HT1:=hdq hT1
 have Hhc:=hdq hc
 have Hihc:=hdq ihc
 clear h ht hS hlen hTT hT0 hT1 hc ihc
 go_enter Tryz.func103,Tryz.ntmps103
 have hin:=HB.out W v H0.out.2
 have HC:=hdq (wask_any (A1:=A1) (A3:=A3) (A4:=A4) (c1:=c1) (c3:=c3) (c4:=c4) (n1:=m1) (n3:=m3) (n4:=m4) H0.out.1 hin.tb HS.out ⟨#[97,115,115,117,109,101]⟩ (by decide) 5 nm at_ kc ac oc atc (Hhc.out.imp fun _ _ hx=>CdR.keep hin.same hx) Hihc.out (by have:=(room2 (s:=(l,wd)) HQ.out).1;rw[HT0.out]at this;exact this))
 replace HC:=hdq (show Calls _ _ _ _ (PutW B b v (putsT _ T0) _ _)from by rw[HT0.out];exact HC.out)
 clear hin
 go_wp2_with fail
 rw[←HWE.out]
 refine HC.out.mono ?_
 rintro _ w1 ⟨v1,rfl,hh,hg⟩
 have H1:=hdq (aiq hh (H0.out.2.trans hg))
 clear hh hg HC
 have hin:=HB.out w1 v1 H1.out.2
 obtain⟨z0,zl,x0,x1,x2,x3,x4,x5,x6,xl⟩:=hin.cells
 have HC:=hdq (put1 H1.out.1 ⟨#[59]⟩ ([59]) rfl (by decide) (by have:=(room2 (s:=(l,wd)) HQ.out).2;rw[HT1.out]at this;exact this))
 rw[←HT1.out]at HC
 clear hin
 go_wp2_with fail
 refine HC.out.mono ?_
 rintro _ w2 ⟨v2,rfl,hh,hg⟩
 have H2:=hdq (aiq hh (H1.out.2.trans hg))
 clear hh hg HC z0 zl x0 x1 x2 x3 x4 x5 x6 xl
 have hin:=HB.out w2 v2 H2.out.2
 obtain⟨z0,zl,-,-,-,-,-,x5,-,xl⟩:=hin.cells
 clear hin
 go_wp2_with fail
 first|go_end0|go_ret
 exact⟨v2,rfl,by rw[HTT.out];exact H2.out.1.puts,(Went.of (b:=b) (v:=v) HF.out).trans H2.out.2⟩
theorem ps_assert (nm:ByteArray) (at_:Int) (kc:Int) (ac:Exs) (oc:Cds) (atc:Int) (T0:Tx) (hT0:T0=([[97,115,115,101,114,116], [40]]++(arC 0 (hgtC kc,innC kc (txX ac) (txC oc))++ [[41]]))) (T1:Tx) (hT1:T1= [[59]]) (h:WrAt B b v l wd w) (ht:Tb B w) (hS:∀x,S x→x < B) (hc:SlR (fun b o=>CdR w S Z (.cons kc ac oc atc .nil) b o) 1 64 A2 c2) (ihc:PC kc ac oc)
  (hlen:(l,wd).1.length +sumT ((T0++T1))≤140737488355328):
  Calls Tryz.prog 103 #[.pointer (some ⟨b,0,none⟩),.agg #[.int .u8 6,.string nm,.slice A1 m1 c1,.slice A2 1 c2,.slice A3 m3 c3,.slice A4 m4 c4,.int .i64 at_]] w (PutW B b v (putsT (l,wd) ((T0++T1))) (.tuple #[]) w):=by
 obtain⟨TT,hTT⟩:∃y:Tx,y=(T0++T1):=⟨_,rfl⟩
 rw[←hTT]
 obtain⟨W,HWE,HF,HB,HSZ,H0⟩:=stmt_pre (S:=S) h ht hS #[.int .u8 6,.string nm,.slice A1 m1 c1,.slice A2 1 c2,.slice A3 m3 c3,.slice A4 m4 c4,.int .i64 at_]
 have hent:Enters Tryz.prog 164:=enters_of Tryz.func164 (by kernel_rfl) rfl
 have HENT:=hdq hent
 unfold Enters at hent
 have HS:=hdq hS
 have HTT:=hdq hTT
 have HQ:=hdq hlen
 have HT0:=hdq hT0
 have HT1:=hdq hT1
 have Hhc:=hdq hc
 have Hihc:=hdq ihc
 clear h ht hS hlen hTT hT0 hT1 hc ihc
 go_enter Tryz.func103,Tryz.ntmps103
 have hin:=HB.out W v H0.out.2
 have HC:=hdq (wask_any (A1:=A1) (A3:=A3) (A4:=A4) (c1:=c1) (c3:=c3) (c4:=c4) (n1:=m1) (n3:=m3) (n4:=m4) H0.out.1 hin.tb HS.out ⟨#[97,115,115,101,114,116]⟩ (by decide) 6 nm at_ kc ac oc atc (Hhc.out.imp fun _ _ hx=>CdR.keep hin.same hx) Hihc.out (by have:=(room2 (s:=(l,wd)) HQ.out).1;rw[HT0.out]at this;exact this))
 replace HC:=hdq (show Calls _ _ _ _ (PutW B b v (putsT _ T0) _ _)from by rw[HT0.out];exact HC.out)
 clear hin
 go_wp2_with fail
 rw[←HWE.out]
 refine HC.out.mono ?_
 rintro _ w1 ⟨v1,rfl,hh,hg⟩
 have H1:=hdq (aiq hh (H0.out.2.trans hg))
 clear hh hg HC
 have hin:=HB.out w1 v1 H1.out.2
 obtain⟨z0,zl,x0,x1,x2,x3,x4,x5,x6,xl⟩:=hin.cells
 have HC:=hdq (put1 H1.out.1 ⟨#[59]⟩ ([59]) rfl (by decide) (by have:=(room2 (s:=(l,wd)) HQ.out).2;rw[HT1.out]at this;exact this))
 rw[←HT1.out]at HC
 clear hin
 go_wp2_with fail
 refine HC.out.mono ?_
 rintro _ w2 ⟨v2,rfl,hh,hg⟩
 have H2:=hdq (aiq hh (H1.out.2.trans hg))
 clear hh hg HC z0 zl x0 x1 x2 x3 x4 x5 x6 xl
 have hin:=HB.out w2 v2 H2.out.2
 obtain⟨z0,zl,-,-,-,-,-,x5,-,xl⟩:=hin.cells
 clear hin
 go_wp2_with fail
 first|go_end0|go_ret
 exact⟨v2,rfl,by rw[HTT.out];exact H2.out.1.puts,(Went.of (b:=b) (v:=v) HF.out).trans H2.out.2⟩
theorem ps_while (nm:ByteArray) (at_:Int) (kc:Int) (ac:Exs) (oc:Cds) (atc:Int) (body:Sts) (T0:Tx) (hT0:T0=([[119,104,105,108,101], [40]]++(arC 0 (hgtC kc,innC kc (txX ac) (txC oc))++ [[41]]))) (T1:Tx) (hT1:T1=blkT (txS body)) (h:WrAt B b v l wd w) (ht:Tb B w) (hS:∀x,S x→x < B) (hc:SlR (fun b o=>CdR w S Z (.cons kc ac oc atc .nil) b o) 1 64 A2 c2) (ihc:PC kc ac oc) (hxbody:SlR (fun b o=>StR w S Z body b o) body.len 128 A3 c3) (ihbbody:PB body)
  (hlen:(l,wd).1.length +sumT ((T0++T1))≤140737488355328):
  Calls Tryz.prog 103 #[.pointer (some ⟨b,0,none⟩),.agg #[.int .u8 8,.string nm,.slice A1 m1 c1,.slice A2 1 c2,.slice A3 body.len c3,.slice A4 m4 c4,.int .i64 at_]] w (PutW B b v (putsT (l,wd) ((T0++T1))) (.tuple #[]) w):=by
 obtain⟨TT,hTT⟩:∃y:Tx,y=(T0++T1):=⟨_,rfl⟩
 rw[←hTT]
 obtain⟨W,HWE,HF,HB,HSZ,H0⟩:=stmt_pre (S:=S) h ht hS #[.int .u8 8,.string nm,.slice A1 m1 c1,.slice A2 1 c2,.slice A3 body.len c3,.slice A4 m4 c4,.int .i64 at_]
 have hent:Enters Tryz.prog 164:=enters_of Tryz.func164 (by kernel_rfl) rfl
 have HENT:=hdq hent
 unfold Enters at hent
 have HS:=hdq hS
 have HTT:=hdq hTT
 have HQ:=hdq hlen
 have HT0:=hdq hT0
 have HT1:=hdq hT1
 have Hhc:=hdq hc
 have Hihc:=hdq ihc
 have Hhxbody:=hdq hxbody
 have Hihbbody:=hdq ihbbody
 clear h ht hS hlen hTT hT0 hT1 hc ihc hxbody ihbbody
 go_enter Tryz.func103,Tryz.ntmps103
 have hin:=HB.out W v H0.out.2
 have HC:=hdq (wask_any (A1:=A1) (A3:=A3) (A4:=A4) (c1:=c1) (c3:=c3) (c4:=c4) (n1:=m1) (n3:=body.len) (n4:=m4) H0.out.1 hin.tb HS.out ⟨#[119,104,105,108,101]⟩ (by decide) 8 nm at_ kc ac oc atc (Hhc.out.imp fun _ _ hx=>CdR.keep hin.same hx) Hihc.out (by have:=(room2 (s:=(l,wd)) HQ.out).1;rw[HT0.out]at this;exact this))
 replace HC:=hdq (show Calls _ _ _ _ (PutW B b v (putsT _ T0) _ _)from by rw[HT0.out];exact HC.out)
 clear hin
 go_wp2_with fail
 rw[←HWE.out]
 refine HC.out.mono ?_
 rintro _ w1 ⟨v1,rfl,hh,hg⟩
 have H1:=hdq (aiq hh (H0.out.2.trans hg))
 clear hh hg HC
 have hin:=HB.out w1 v1 H1.out.2
 obtain⟨z0,zl,x0,x1,x2,x3,x4,x5,x6,xl⟩:=hin.cells
 have HC:=hdq (Hihbbody.out B b v1 _ _ w1 S Z _ _ H1.out.1 hin.tb HS.out (Hhxbody.out.imp fun _ _ hx=>StR.keep hin.same hx) (by have:=(room2 (s:=(l,wd)) HQ.out).2;rw[HT1.out]at this;exact this))
 rw[←HT1.out]at HC
 clear hin
 go_wp2_with fail
 refine HC.out.mono ?_
 rintro _ w2 ⟨v2,rfl,hh,hg⟩
 have H2:=hdq (aiq hh (H1.out.2.trans hg))
 clear hh hg HC z0 zl x0 x1 x2 x3 x4 x5 x6 xl
 have hin:=HB.out w2 v2 H2.out.2
 obtain⟨z0,zl,-,-,-,-,-,x5,-,xl⟩:=hin.cells
 clear hin
 go_wp2_with fail
 first|go_end0|go_ret
 exact⟨v2,rfl,by rw[HTT.out];exact H2.out.1.puts,(Went.of (b:=b) (v:=v) HF.out).trans H2.out.2⟩
theorem ps_if (nm:ByteArray) (at_:Int) (kc:Int) (ac:Exs) (oc:Cds) (atc:Int) (body:Sts) (T0:Tx) (hT0:T0=([[105,102], [40]]++(arC 0 (hgtC kc,innC kc (txX ac) (txC oc))++ [[41]]))) (T1:Tx) (hT1:T1=blkT (txS body)) (h:WrAt B b v l wd w) (ht:Tb B w) (hS:∀x,S x→x < B) (hc:SlR (fun b o=>CdR w S Z (.cons kc ac oc atc .nil) b o) 1 64 A2 c2) (ihc:PC kc ac oc) (hxbody:SlR (fun b o=>StR w S Z body b o) body.len 128 A3 c3) (ihbbody:PB body)
  (hlen:(l,wd).1.length +sumT ((T0++T1))≤140737488355328):
  Calls Tryz.prog 103 #[.pointer (some ⟨b,0,none⟩),.agg #[.int .u8 7,.string nm,.slice A1 m1 c1,.slice A2 1 c2,.slice A3 body.len c3,.slice A4 0 c4,.int .i64 at_]] w (PutW B b v (putsT (l,wd) ((T0++T1))) (.tuple #[]) w):=by
 obtain⟨TT,hTT⟩:∃y:Tx,y=(T0++T1):=⟨_,rfl⟩
 rw[←hTT]
 obtain⟨W,HWE,HF,HB,HSZ,H0⟩:=stmt_pre (S:=S) h ht hS #[.int .u8 7,.string nm,.slice A1 m1 c1,.slice A2 1 c2,.slice A3 body.len c3,.slice A4 0 c4,.int .i64 at_]
 have hent:Enters Tryz.prog 164:=enters_of Tryz.func164 (by kernel_rfl) rfl
 have HENT:=hdq hent
 unfold Enters at hent
 have HS:=hdq hS
 have HTT:=hdq hTT
 have HQ:=hdq hlen
 have HT0:=hdq hT0
 have HT1:=hdq hT1
 have Hhc:=hdq hc
 have Hihc:=hdq ihc
 have Hhxbody:=hdq hxbody
 have Hihbbody:=hdq ihbbody
 clear h ht hS hlen hTT hT0 hT1 hc ihc hxbody ihbbody
 go_enter Tryz.func103,Tryz.ntmps103
 have hin:=HB.out W v H0.out.2
 have HC:=hdq (wask_any (A1:=A1) (A3:=A3) (A4:=A4) (c1:=c1) (c3:=c3) (c4:=c4) (n1:=m1) (n3:=body.len) (n4:=0) H0.out.1 hin.tb HS.out ⟨#[105,102]⟩ (by decide) 7 nm at_ kc ac oc atc (Hhc.out.imp fun _ _ hx=>CdR.keep hin.same hx) Hihc.out (by have:=(room2 (s:=(l,wd)) HQ.out).1;rw[HT0.out]at this;exact this))
 replace HC:=hdq (show Calls _ _ _ _ (PutW B b v (putsT _ T0) _ _)from by rw[HT0.out];exact HC.out)
 clear hin
 go_wp2_with fail
 rw[←HWE.out]
 refine HC.out.mono ?_
 rintro _ w1 ⟨v1,rfl,hh,hg⟩
 have H1:=hdq (aiq hh (H0.out.2.trans hg))
 clear hh hg HC
 have hin:=HB.out w1 v1 H1.out.2
 obtain⟨z0,zl,x0,x1,x2,x3,x4,x5,x6,xl⟩:=hin.cells
 have HC:=hdq (Hihbbody.out B b v1 _ _ w1 S Z _ _ H1.out.1 hin.tb HS.out (Hhxbody.out.imp fun _ _ hx=>StR.keep hin.same hx) (by have:=(room2 (s:=(l,wd)) HQ.out).2;rw[HT1.out]at this;exact this))
 rw[←HT1.out]at HC
 clear hin
 go_wp2_with fail
 refine HC.out.mono ?_
 rintro _ w2 ⟨v2,rfl,hh,hg⟩
 have H2:=hdq (aiq hh (H1.out.2.trans hg))
 clear hh hg HC z0 zl x0 x1 x2 x3 x4 x5 x6 xl
 have hin:=HB.out w2 v2 H2.out.2
 obtain⟨z0,zl,-,-,-,-,-,x5,-,xl⟩:=hin.cells
 clear hin
 go_wp2_with fail
 first|go_end0|go_ret
 exact⟨v2,rfl,by rw[HTT.out];exact H2.out.1.puts,(Went.of (b:=b) (v:=v) HF.out).trans H2.out.2⟩
theorem ps_ifelse (nm:ByteArray) (at_:Int) (kc:Int) (ac:Exs) (oc:Cds) (atc:Int) (body els:Sts) (hpos:0 < els.len) (T0:Tx) (hT0:T0=([[105,102], [40]]++(arC 0 (hgtC kc,innC kc (txX ac) (txC oc))++ [[41]]))) (T1:Tx) (hT1:T1=blkT (txS body)) (T2:Tx) (hT2:T2= [[101,108,115,101]]) (T3:Tx) (hT3:T3=blkT (txS els)) (h:WrAt B b v l wd w) (ht:Tb B w) (hS:∀x,S x→x < B) (hc:SlR (fun b o=>CdR w S Z (.cons kc ac oc atc .nil) b o) 1 64 A2 c2) (ihc:PC kc ac oc) (hxbody:SlR (fun b o=>StR w S Z body b o) body.len 128 A3 c3) (ihbbody:PB body) (hxels:SlR (fun b o=>StR w S Z els b o) els.len 128 A4 c4) (ihbels:PB els)
  (hlen:(l,wd).1.length +sumT ((T0++(T1++(T2++T3))))≤140737488355328):
  Calls Tryz.prog 103 #[.pointer (some ⟨b,0,none⟩),.agg #[.int .u8 7,.string nm,.slice A1 m1 c1,.slice A2 1 c2,.slice A3 body.len c3,.slice A4 els.len c4,.int .i64 at_]] w (PutW B b v (putsT (l,wd) ((T0++(T1++(T2++T3))))) (.tuple #[]) w):=by
 have e0:decide ((0:Int) < (els.len:Int))=true:=by simp;omega
 have e0n:decide (0 < els.len)=true:=by simp;omega
 obtain⟨TT,hTT⟩:∃y:Tx,y=(T0++(T1++(T2++T3))):=⟨_,rfl⟩
 rw[←hTT]
 obtain⟨W,HWE,HF,HB,HSZ,H0⟩:=stmt_pre (S:=S) h ht hS #[.int .u8 7,.string nm,.slice A1 m1 c1,.slice A2 1 c2,.slice A3 body.len c3,.slice A4 els.len c4,.int .i64 at_]
 have hent:Enters Tryz.prog 164:=enters_of Tryz.func164 (by kernel_rfl) rfl
 have HENT:=hdq hent
 unfold Enters at hent
 have HS:=hdq hS
 have HTT:=hdq hTT
 have HQ:=hdq hlen
 have HT0:=hdq hT0
 have HT1:=hdq hT1
 have HT2:=hdq hT2
 have HT3:=hdq hT3
 have Hhc:=hdq hc
 have Hihc:=hdq ihc
 have Hhxbody:=hdq hxbody
 have Hihbbody:=hdq ihbbody
 have Hhxels:=hdq hxels
 have Hihbels:=hdq ihbels
 clear h ht hS hlen hTT hT0 hT1 hT2 hT3 hc ihc hxbody ihbbody hxels ihbels
 go_enter Tryz.func103,Tryz.ntmps103
 have hin:=HB.out W v H0.out.2
 have HC:=hdq (wask_any (A1:=A1) (A3:=A3) (A4:=A4) (c1:=c1) (c3:=c3) (c4:=c4) (n1:=m1) (n3:=body.len) (n4:=els.len) H0.out.1 hin.tb HS.out ⟨#[105,102]⟩ (by decide) 7 nm at_ kc ac oc atc (Hhc.out.imp fun _ _ hx=>CdR.keep hin.same hx) Hihc.out (by have:=(room2 (s:=(l,wd)) HQ.out).1;rw[HT0.out]at this;exact this))
 replace HC:=hdq (show Calls _ _ _ _ (PutW B b v (putsT _ T0) _ _)from by rw[HT0.out];exact HC.out)
 clear hin
 go_wp2_with fail
 rw[←HWE.out]
 refine HC.out.mono ?_
 rintro _ w1 ⟨v1,rfl,hh,hg⟩
 have H1:=hdq (aiq hh (H0.out.2.trans hg))
 clear hh hg HC
 have hin:=HB.out w1 v1 H1.out.2
 obtain⟨z0,zl,x0,x1,x2,x3,x4,x5,x6,xl⟩:=hin.cells
 have HC:=hdq (Hihbbody.out B b v1 _ _ w1 S Z _ _ H1.out.1 hin.tb HS.out (Hhxbody.out.imp fun _ _ hx=>StR.keep hin.same hx) (by have:=(room2 (room2 (s:=(l,wd)) HQ.out).2).1;rw[HT1.out]at this;exact this))
 rw[←HT1.out]at HC
 clear hin
 go_wp2_with fail
 refine HC.out.mono ?_
 rintro _ w2 ⟨v2,rfl,hh,hg⟩
 have H2:=hdq (aiq hh (H1.out.2.trans hg))
 clear hh hg HC z0 zl x0 x1 x2 x3 x4 x5 x6 xl
 have hin:=HB.out w2 v2 H2.out.2
 obtain⟨z0,zl,x0,x1,x2,x3,x4,x5,x6,xl⟩:=hin.cells
 have HC:=hdq (put1 H2.out.1 ⟨#[101,108,115,101]⟩ ([101,108,115,101]) rfl (by decide) (by have:=(room2 (room2 (room2 (s:=(l,wd)) HQ.out).2).2).1;rw[HT2.out]at this;exact this))
 rw[←HT2.out]at HC
 clear hin
 go_wp2_with fail
 refine HC.out.mono ?_
 rintro _ w3 ⟨v3,rfl,hh,hg⟩
 have H3:=hdq (aiq hh (H2.out.2.trans hg))
 clear hh hg HC z0 zl x0 x1 x2 x3 x4 x5 x6 xl
 have hin:=HB.out w3 v3 H3.out.2
 obtain⟨z0,zl,x0,x1,x2,x3,x4,x5,x6,xl⟩:=hin.cells
 have HC:=hdq (Hihbels.out B b v3 _ _ w3 S Z _ _ H3.out.1 hin.tb HS.out (Hhxels.out.imp fun _ _ hx=>StR.keep hin.same hx) (by have:=(room2 (room2 (room2 (s:=(l,wd)) HQ.out).2).2).2;rw[HT3.out]at this;exact this))
 rw[←HT3.out]at HC
 clear hin
 go_wp2_with fail
 refine HC.out.mono ?_
 rintro _ w4 ⟨v4,rfl,hh,hg⟩
 have H4:=hdq (aiq hh (H3.out.2.trans hg))
 clear hh hg HC z0 zl x0 x1 x2 x3 x4 x5 x6 xl
 have hin:=HB.out w4 v4 H4.out.2
 obtain⟨z0,zl,-,-,-,-,-,x5,-,xl⟩:=hin.cells
 clear hin
 go_wp2_with fail
 first|go_end0|go_ret
 exact⟨v4,rfl,by rw[HTT.out];exact H4.out.1.puts.puts.puts,(Went.of (b:=b) (v:=v) HF.out).trans H4.out.2⟩
theorem ps_call (nm:ByteArray) (at_:Int) (args:Exs) (T0:Tx) (hT0:T0= [[99,97,108,108],nm.data.toList, [40]]) (T1:Tx) (hT1:T1=betw ((txX args).map (arE 0))) (T2:Tx) (hT2:T2= [[41]]) (T3:Tx) (hT3:T3= [[59]]) (h:WrAt B b v l wd w) (ht:Tb B w) (hS:∀x,S x→x < B) (hnm:nm.data.toList≠ []) (hx:SlR (fun b o=>ExR w S Z args b o) args.len 64 A1 c1) (ihx:PXs args)
  (hlen:(l,wd).1.length +sumT ((T0++(T1++(T2++T3))))≤140737488355328):
  Calls Tryz.prog 103 #[.pointer (some ⟨b,0,none⟩),.agg #[.int .u8 9,.string nm,.slice A1 args.len c1,.slice A2 m2 c2,.slice A3 m3 c3,.slice A4 m4 c4,.int .i64 at_]] w (PutW B b v (putsT (l,wd) ((T0++(T1++(T2++T3))))) (.tuple #[]) w):=by
 obtain⟨TT,hTT⟩:∃y:Tx,y=(T0++(T1++(T2++T3))):=⟨_,rfl⟩
 rw[←hTT]
 obtain⟨W,HWE,HF,HB,HSZ,H0⟩:=stmt_pre (S:=S) h ht hS #[.int .u8 9,.string nm,.slice A1 args.len c1,.slice A2 m2 c2,.slice A3 m3 c3,.slice A4 m4 c4,.int .i64 at_]
 have hent:Enters Tryz.prog 164:=enters_of Tryz.func164 (by kernel_rfl) rfl
 have HENT:=hdq hent
 unfold Enters at hent
 have HS:=hdq hS
 have HTT:=hdq hTT
 have HQ:=hdq hlen
 have HT0:=hdq hT0
 have HT1:=hdq hT1
 have HT2:=hdq hT2
 have HT3:=hdq hT3
 have HNM:=hdq hnm
 have Hhx:=hdq hx
 have Hihx:=hdq ihx
 clear h ht hS hlen hTT hT0 hT1 hT2 hT3 hnm hx ihx
 go_enter Tryz.func103,Tryz.ntmps103
 have hin:=HB.out W v H0.out.2
 have HC:=hdq (put3 H0.out.1 ⟨#[99,97,108,108]⟩ nm ⟨#[40]⟩ ([99,97,108,108]) nm.data.toList ([40]) rfl rfl rfl (by decide) HNM.out (by decide) (by have:=(room2 (s:=(l,wd)) HQ.out).1;rw[HT0.out]at this;exact this))
 rw[←HT0.out]at HC
 rw[HSZ.out]at HC
 clear hin
 go_wp2_with fail
 rw[←HWE.out]
 refine HC.out.mono ?_
 rintro _ w1 ⟨v1,rfl,hh,hg⟩
 have H1:=hdq (aiq hh (H0.out.2.trans hg))
 clear hh hg HC
 have hin:=HB.out w1 v1 H1.out.2
 obtain⟨z0,zl,x0,x1,x2,x3,x4,x5,x6,xl⟩:=hin.cells
 have HC:=hdq (betwEx_any args ((txX args).map (arE 0)) (by rw[List.length_map,txX_len]) 164 #[.pointer (some ⟨w.heap.size,0,none⟩)] H1.out.1 HS.out (Hhx.out.imp fun _ _ hx=>ExR.keep hin.same hx) HENT.out (fun i a0 a1 a2 a3 a4 ar A3 q3 hd hn3 hs3 t ht=>by
  have e:=txX_drop args i hd
  rw[List.getElem?_map,e]at ht
  simp only[Option.map_some,Option.some.injEq]at ht
  subst ht
  exact clx_any H1.out.1 hin.tb HS.out hin.k1 hin.n1 a0 a1 a2 a3 a4 hs3 hn3 (Hihx.out i _ _ _ _ _ _ hd)) (by have:=(room2 (room2 (s:=(l,wd)) HQ.out).2).1;rw[HT1.out]at this;exact this))
 rw[←HT1.out]at HC
 clear hin
 go_wp2_with fail
 refine HC.out.mono ?_
 rintro _ w2 ⟨v2,rfl,hh,hg⟩
 have H2:=hdq (aiq hh (H1.out.2.trans hg))
 clear hh hg HC z0 zl x0 x1 x2 x3 x4 x5 x6 xl
 have hin:=HB.out w2 v2 H2.out.2
 obtain⟨z0,zl,x0,x1,x2,x3,x4,x5,x6,xl⟩:=hin.cells
 have HC:=hdq (put1 H2.out.1 ⟨#[41]⟩ ([41]) rfl (by decide) (by have:=(room2 (room2 (room2 (s:=(l,wd)) HQ.out).2).2).1;rw[HT2.out]at this;exact this))
 rw[←HT2.out]at HC
 clear hin
 go_wp2_with fail
 refine HC.out.mono ?_
 rintro _ w3 ⟨v3,rfl,hh,hg⟩
 have H3:=hdq (aiq hh (H2.out.2.trans hg))
 clear hh hg HC z0 zl x0 x1 x2 x3 x4 x5 x6 xl
 have hin:=HB.out w3 v3 H3.out.2
 obtain⟨z0,zl,x0,x1,x2,x3,x4,x5,x6,xl⟩:=hin.cells
 have HC:=hdq (put1 H3.out.1 ⟨#[59]⟩ ([59]) rfl (by decide) (by have:=(room2 (room2 (room2 (s:=(l,wd)) HQ.out).2).2).2;rw[HT3.out]at this;exact this))
 rw[←HT3.out]at HC
 clear hin
 go_wp2_with fail
 refine HC.out.mono ?_
 rintro _ w4 ⟨v4,rfl,hh,hg⟩
 have H4:=hdq (aiq hh (H3.out.2.trans hg))
 clear hh hg HC z0 zl x0 x1 x2 x3 x4 x5 x6 xl
 have hin:=HB.out w4 v4 H4.out.2
 obtain⟨z0,zl,-,-,-,-,-,x5,-,xl⟩:=hin.cells
 clear hin
 go_wp2_with fail
 first|go_end0|go_ret
 exact⟨v4,rfl,by rw[HTT.out];exact H4.out.1.puts.puts.puts,(Went.of (b:=b) (v:=v) HF.out).trans H4.out.2⟩
theorem ps_store (nm:ByteArray) (at_:Int) (k1:Int) (nm1:ByteArray) (n1:Int) (b1:Exs) (at1:Int) (k2:Int) (nm2:ByteArray) (n2:Int) (b2:Exs) (at2:Int) (T0:Tx) (hT0:T0= [nm.data.toList, [91]]) (T1:Tx) (hT1:T1=arE 0 (lvlE k1,innE k1 nm1 n1 (txX b1))) (T2:Tx) (hT2:T2= [[93], [61]]) (T3:Tx) (hT3:T3=arE 0 (lvlE k2,innE k2 nm2 n2 (txX b2))) (T4:Tx) (hT4:T4= [[59]]) (h:WrAt B b v l wd w) (ht:Tb B w) (hS:∀x,S x→x < B) (hnm:nm.data.toList≠ []) (hx:SlR (fun b o=>ExR w S Z (.cons k1 nm1 n1 b1 at1 (.cons k2 nm2 n2 b2 at2 .nil)) b o) 2 64 A1 c1) (ih1:PX k1 nm1 n1 b1) (ih2:PX k2 nm2 n2 b2)
  (hlen:(l,wd).1.length +sumT ((T0++(T1++(T2++(T3++T4)))))≤140737488355328):
  Calls Tryz.prog 103 #[.pointer (some ⟨b,0,none⟩),.agg #[.int .u8 3,.string nm,.slice A1 2 c1,.slice A2 m2 c2,.slice A3 m3 c3,.slice A4 m4 c4,.int .i64 at_]] w (PutW B b v (putsT (l,wd) ((T0++(T1++(T2++(T3++T4)))))) (.tuple #[]) w):=by
 obtain⟨TT,hTT⟩:∃y:Tx,y=(T0++(T1++(T2++(T3++T4)))):=⟨_,rfl⟩
 rw[←hTT]
 obtain⟨W,HWE,HF,HB,HSZ,H0⟩:=stmt_pre (S:=S) h ht hS #[.int .u8 3,.string nm,.slice A1 2 c1,.slice A2 m2 c2,.slice A3 m3 c3,.slice A4 m4 c4,.int .i64 at_]
 have hent:Enters Tryz.prog 164:=enters_of Tryz.func164 (by kernel_rfl) rfl
 have HENT:=hdq hent
 unfold Enters at hent
 have HS:=hdq hS
 have HTT:=hdq hTT
 have HQ:=hdq hlen
 have HT0:=hdq hT0
 have HT1:=hdq hT1
 have HT2:=hdq hT2
 have HT3:=hdq hT3
 have HT4:=hdq hT4
 have HNM:=hdq hnm
 have Hhx:=hdq hx
 have Hih1:=hdq ih1
 have Hih2:=hdq ih2
 clear h ht hS hlen hTT hT0 hT1 hT2 hT3 hT4 hnm hx ih1 ih2
 go_enter Tryz.func103,Tryz.ntmps103
 have hin:=HB.out W v H0.out.2
 have HC:=hdq (put2 H0.out.1 nm ⟨#[91]⟩ nm.data.toList ([91]) rfl rfl HNM.out (by decide) (by have:=(room2 (s:=(l,wd)) HQ.out).1;rw[HT0.out]at this;exact this))
 rw[←HT0.out]at HC
 rw[HSZ.out]at HC
 clear hin
 go_wp2_with fail
 rw[←HWE.out]
 refine HC.out.mono ?_
 rintro _ w1 ⟨v1,rfl,hh,hg⟩
 have H1:=hdq (aiq hh (H0.out.2.trans hg))
 clear hh hg HC
 have hin:=HB.out w1 v1 H1.out.2
 obtain⟨z0,zl,x0,x1,x2,x3,x4,x5,x6,xl⟩:=hin.cells
 obtain⟨bA,oA,hAe,hat⟩:=(Hhx.out.imp fun _ _ hx=>ExR.keep hin.same hx).2.2 (by decide)
 obtain⟨A9,c9,s9,hn9,hbS,d0,d1,d2,d3,d4⟩:=hat.first
 have hlA:bA < w1.heap.size:=ltq (HS.out _ hbS) H1.out.1.base
 have HC:=hdq (clx_any H1.out.1 hin.tb HS.out hin.k1 hin.n1 k1 nm1 n1 b1 at1 s9 hn9 Hih1.out _ _ _ _ H1.out.1 (Went.refl b v1 w1) (by have:=(room2 (room2 (s:=(l,wd)) HQ.out).2).1;rw[HT1.out]at this;exact this))
 rw[←HT1.out]at HC
 rw[hAe]at x2
 clear hat s9 hn9 hbS hAe
 clear hin
 go_wp2_with fail
 refine HC.out.mono ?_
 rintro _ w2 ⟨v2,rfl,hh,hg⟩
 have H2:=hdq (aiq hh (H1.out.2.trans hg))
 clear hh hg HC z0 zl x0 x1 x2 x3 x4 x5 x6 xl d0 d1 d2 d3 d4 hlA
 have hin:=HB.out w2 v2 H2.out.2
 obtain⟨z0,zl,x0,x1,x2,x3,x4,x5,x6,xl⟩:=hin.cells
 have HC:=hdq (put2 H2.out.1 ⟨#[93]⟩ ⟨#[61]⟩ ([93]) ([61]) rfl rfl (by decide) (by decide) (by have:=(room2 (room2 (room2 (s:=(l,wd)) HQ.out).2).2).1;rw[HT2.out]at this;exact this))
 rw[←HT2.out]at HC
 clear hin
 go_wp2_with fail
 refine HC.out.mono ?_
 rintro _ w3 ⟨v3,rfl,hh,hg⟩
 have H3:=hdq (aiq hh (H2.out.2.trans hg))
 clear hh hg HC z0 zl x0 x1 x2 x3 x4 x5 x6 xl
 have hin:=HB.out w3 v3 H3.out.2
 obtain⟨z0,zl,x0,x1,x2,x3,x4,x5,x6,xl⟩:=hin.cells
 obtain⟨bA,oA,hAe,hat⟩:=(Hhx.out.imp fun _ _ hx=>ExR.keep hin.same hx).2.2 (by decide)
 obtain⟨A9,c9,s9,hn9,hbS,d0,d1,d2,d3,d4⟩:=hat.second.first
 have hlA:bA < w3.heap.size:=ltq (HS.out _ hbS) H3.out.1.base
 have HC:=hdq (clx_any H3.out.1 hin.tb HS.out hin.k1 hin.n1 k2 nm2 n2 b2 at2 s9 hn9 Hih2.out _ _ _ _ H3.out.1 (Went.refl b v3 w3) (by have:=(room2 (room2 (room2 (room2 (s:=(l,wd)) HQ.out).2).2).2).1;rw[HT3.out]at this;exact this))
 rw[←HT3.out]at HC
 rw[hAe]at x2
 clear hat s9 hn9 hbS hAe
 clear hin
 go_wp2_with fail
 refine HC.out.mono ?_
 rintro _ w4 ⟨v4,rfl,hh,hg⟩
 have H4:=hdq (aiq hh (H3.out.2.trans hg))
 clear hh hg HC z0 zl x0 x1 x2 x3 x4 x5 x6 xl d0 d1 d2 d3 d4 hlA
 have hin:=HB.out w4 v4 H4.out.2
 obtain⟨z0,zl,x0,x1,x2,x3,x4,x5,x6,xl⟩:=hin.cells
 have HC:=hdq (put1 H4.out.1 ⟨#[59]⟩ ([59]) rfl (by decide) (by have:=(room2 (room2 (room2 (room2 (s:=(l,wd)) HQ.out).2).2).2).2;rw[HT4.out]at this;exact this))
 rw[←HT4.out]at HC
 clear hin
 go_wp2_with fail
 refine HC.out.mono ?_
 rintro _ w5 ⟨v5,rfl,hh,hg⟩
 have H5:=hdq (aiq hh (H4.out.2.trans hg))
 clear hh hg HC z0 zl x0 x1 x2 x3 x4 x5 x6 xl
 have hin:=HB.out w5 v5 H5.out.2
 obtain⟨z0,zl,-,-,-,-,-,x5,-,xl⟩:=hin.cells
 clear hin
 go_wp2_with fail
 first|go_end0|go_ret
 exact⟨v5,rfl,by rw[HTT.out];exact H5.out.1.puts.puts.puts.puts,(Went.of (b:=b) (v:=v) HF.out).trans H5.out.2⟩
theorem ps_set (nm:ByteArray) (at_:Int) (k1:Int) (nm1:ByteArray) (n1:Int) (b1:Exs) (at1:Int) (T0:Tx) (hT0:T0= [nm.data.toList, [61]]) (T1:Tx) (hT1:T1=arE 0 (lvlE k1,innE k1 nm1 n1 (txX b1))) (T2:Tx) (hT2:T2= [[59]]) (h:WrAt B b v l wd w) (ht:Tb B w) (hS:∀x,S x→x < B) (hnm:nm.data.toList≠ []) (hx:SlR (fun b o=>ExR w S Z (.cons k1 nm1 n1 b1 at1 .nil) b o) 1 64 A1 c1) (ih1:PX k1 nm1 n1 b1)
  (hlen:(l,wd).1.length +sumT ((T0++(T1++T2)))≤140737488355328):
  Calls Tryz.prog 103 #[.pointer (some ⟨b,0,none⟩),.agg #[.int .u8 2,.string nm,.slice A1 1 c1,.slice A2 m2 c2,.slice A3 m3 c3,.slice A4 m4 c4,.int .i64 at_]] w (PutW B b v (putsT (l,wd) ((T0++(T1++T2)))) (.tuple #[]) w):=by
 obtain⟨TT,hTT⟩:∃y:Tx,y=(T0++(T1++T2)):=⟨_,rfl⟩
 rw[←hTT]
 obtain⟨W,HWE,HF,HB,HSZ,H0⟩:=stmt_pre (S:=S) h ht hS #[.int .u8 2,.string nm,.slice A1 1 c1,.slice A2 m2 c2,.slice A3 m3 c3,.slice A4 m4 c4,.int .i64 at_]
 have hent:Enters Tryz.prog 164:=enters_of Tryz.func164 (by kernel_rfl) rfl
 have HENT:=hdq hent
 unfold Enters at hent
 have HS:=hdq hS
 have HTT:=hdq hTT
 have HQ:=hdq hlen
 have HT0:=hdq hT0
 have HT1:=hdq hT1
 have HT2:=hdq hT2
 have HNM:=hdq hnm
 have Hhx:=hdq hx
 have Hih1:=hdq ih1
 clear h ht hS hlen hTT hT0 hT1 hT2 hnm hx ih1
 go_enter Tryz.func103,Tryz.ntmps103
 have hin:=HB.out W v H0.out.2
 have HC:=hdq (put2 H0.out.1 nm ⟨#[61]⟩ nm.data.toList ([61]) rfl rfl HNM.out (by decide) (by have:=(room2 (s:=(l,wd)) HQ.out).1;rw[HT0.out]at this;exact this))
 rw[←HT0.out]at HC
 rw[HSZ.out]at HC
 clear hin
 go_wp2_with fail
 rw[←HWE.out]
 refine HC.out.mono ?_
 rintro _ w1 ⟨v1,rfl,hh,hg⟩
 have H1:=hdq (aiq hh (H0.out.2.trans hg))
 clear hh hg HC
 have hin:=HB.out w1 v1 H1.out.2
 obtain⟨z0,zl,x0,x1,x2,x3,x4,x5,x6,xl⟩:=hin.cells
 obtain⟨bA,oA,hAe,hat⟩:=(Hhx.out.imp fun _ _ hx=>ExR.keep hin.same hx).2.2 (by decide)
 obtain⟨A9,c9,s9,hn9,hbS,d0,d1,d2,d3,d4⟩:=hat.first
 have hlA:bA < w1.heap.size:=ltq (HS.out _ hbS) H1.out.1.base
 have HC:=hdq (clx_any H1.out.1 hin.tb HS.out hin.k1 hin.n1 k1 nm1 n1 b1 at1 s9 hn9 Hih1.out _ _ _ _ H1.out.1 (Went.refl b v1 w1) (by have:=(room2 (room2 (s:=(l,wd)) HQ.out).2).1;rw[HT1.out]at this;exact this))
 rw[←HT1.out]at HC
 rw[hAe]at x2
 clear hat s9 hn9 hbS hAe
 clear hin
 go_wp2_with fail
 refine HC.out.mono ?_
 rintro _ w2 ⟨v2,rfl,hh,hg⟩
 have H2:=hdq (aiq hh (H1.out.2.trans hg))
 clear hh hg HC z0 zl x0 x1 x2 x3 x4 x5 x6 xl d0 d1 d2 d3 d4 hlA
 have hin:=HB.out w2 v2 H2.out.2
 obtain⟨z0,zl,x0,x1,x2,x3,x4,x5,x6,xl⟩:=hin.cells
 have HC:=hdq (put1 H2.out.1 ⟨#[59]⟩ ([59]) rfl (by decide) (by have:=(room2 (room2 (s:=(l,wd)) HQ.out).2).2;rw[HT2.out]at this;exact this))
 rw[←HT2.out]at HC
 clear hin
 go_wp2_with fail
 refine HC.out.mono ?_
 rintro _ w3 ⟨v3,rfl,hh,hg⟩
 have H3:=hdq (aiq hh (H2.out.2.trans hg))
 clear hh hg HC z0 zl x0 x1 x2 x3 x4 x5 x6 xl
 have hin:=HB.out w3 v3 H3.out.2
 obtain⟨z0,zl,-,-,-,-,-,x5,-,xl⟩:=hin.cells
 clear hin
 go_wp2_with fail
 first|go_end0|go_ret
 exact⟨v3,rfl,by rw[HTT.out];exact H3.out.1.puts.puts,(Went.of (b:=b) (v:=v) HF.out).trans H3.out.2⟩
end
end Go.Proofs.YtmopichdofgndaaGreatDoor

namespace Go.Proofs.YtmopichdofgndaaGreatDoor
open Go.RowKit Go.Shelf

theorem ps_one (k:Int) (nm:ByteArray) (args:Exs) (cond:Cds) (body els:Sts) (hk:∀at_,okT k nm args cond body els at_=true) (ihx:PXs args) (ihc:PCs cond) (ihb:PB body) (ihe:PB els):PS k nm args cond body els:=by
 intro at_ B b v l wd w S Z A1 A2 A3 A4 c1 c2 c3 c4 h ht hS x1 x2 x3 x4 hlen
 have hk:=hk at_
 simp only[okT,Bool.and_eq_true,Bool.or_eq_true,decide_eq_true_eq,beq_iff_eq]at hk
 obtain⟨⟨⟨⟨⟨⟨⟨⟨⟨⟨h1,h2⟩,h3⟩,h4⟩,h5⟩,h6⟩,h7⟩,h8⟩,h9⟩,h10⟩,h11⟩:=hk
 have lb:k≠7→k≠8→body= .nil :=fun a b=>by
  rcases h6 with(h6|h6)|h6
  ·exact absurd h6 a
  ·exact absurd h6 b
  ·cases body with
   |nil=>rfl
   |cons=>simp[Sts.len]at h6
 have le:k≠7→els= .nil :=fun a=>by
  rcases h7 with h7|h7
  ·exact absurd h7 a
  ·cases els with
   |nil=>rfl
   |cons=>simp[Sts.len]at h7
 have hk:k=1∨k=2∨k=3∨k=4∨k=5∨k=6∨k=7∨k=8∨k=9:=by omega
 rcases hk with rfl|rfl|rfl|rfl|rfl|rfl|rfl|rfl|rfl
 ·exact ps_skip nm at_ _ rfl _ rfl h ht hS hlen
 ·obtain⟨k',nm',n',b',at',rfl⟩:=len1 (a:=args) (by simp[tabA,stShp]at h4;omega)
  exact ps_set nm at_ k' nm' n' b' at' _ rfl _ rfl _ rfl h ht hS (nm_ne (nm_yes h3)) x1 (ihx 0 _ _ _ _ _ _ rfl) hlen
 ·obtain⟨k1,nm1,n1,b1,at1,k2,nm2,n2,b2,at2,rfl⟩:=len2 (a:=args) (by simp[tabA,stShp]at h4;omega)
  exact ps_store nm at_ k1 nm1 n1 b1 at1 k2 nm2 n2 b2 at2 _ rfl _ rfl _ rfl _ rfl _ rfl h ht hS (nm_ne (nm_yes h3)) x1 (ihx 0 _ _ _ _ _ _ rfl) (ihx 1 _ _ _ _ _ _ rfl) hlen
 ·exact ps_input nm at_ _ rfl _ rfl h ht hS (nm_ne (nm_yes h3)) hlen
 ·obtain⟨k',b',o',at',rfl⟩:=lenC1 (a:=cond) (by simp[tabA,stShp]at h5;omega)
  exact ps_assume nm at_ k' b' o' at' _ rfl _ rfl h ht hS x2 (ihc 0 _ _ _ _ _ rfl) hlen
 ·obtain⟨k',b',o',at',rfl⟩:=lenC1 (a:=cond) (by simp[tabA,stShp]at h5;omega)
  exact ps_assert nm at_ k' b' o' at' _ rfl _ rfl h ht hS x2 (ihc 0 _ _ _ _ _ rfl) hlen
 ·obtain⟨k',b',o',at',rfl⟩:=lenC1 (a:=cond) (by simp[tabA,stShp]at h5;omega)
  by_cases he:els= .nil
  ·subst he
   have e:innS 7 nm.data.toList (txX args) (txC (.cons k' b' o' at' .nil)) (txS body) (txS .nil)=([[105,102], [40]]++(arC 0 (hgtC k',innC k' (txX b') (txC o'))++ [[41]]))++blkT (txS body):=by
    show askT [105,102] (txC (.cons k' b' o' at' .nil))++(blkT (txS body)++(if txS Sts.nil= []then []else [101,108,115,101]::blkT (txS Sts.nil)))=_
    rw[if_pos (show txS Sts.nil= []from rfl),List.append_nil]
    rfl
   rw[e]at hlen ⊢
   exact ps_if nm at_ k' b' o' at' body _ rfl _ rfl h ht hS x2 (ihc 0 _ _ _ _ _ rfl) x3 ihb hlen
  ·have hn:txS els≠ []∧0 < els.len:=by
    cases els with
    |nil=>exact absurd rfl he
    |cons=>simp[txS,Sts.len]
   have e:innS 7 nm.data.toList (txX args) (txC (.cons k' b' o' at' .nil)) (txS body) (txS els)=([[105,102], [40]]++(arC 0 (hgtC k',innC k' (txX b') (txC o'))++ [[41]]))++(blkT (txS body)++([[101,108,115,101]]++blkT (txS els))):=by
    show askT [105,102] (txC (.cons k' b' o' at' .nil))++(blkT (txS body)++(if txS els= []then []else [101,108,115,101]::blkT (txS els)))=_
    rw[if_neg hn.1]
    rfl
   rw[e]at hlen ⊢
   exact ps_ifelse nm at_ k' b' o' at' body els hn.2 _ rfl _ rfl _ rfl _ rfl h ht hS x2 (ihc 0 _ _ _ _ _ rfl) x3 ihb x4 ihe hlen
 ·obtain⟨k',b',o',at',rfl⟩:=lenC1 (a:=cond) (by simp[tabA,stShp]at h5;omega)
  exact ps_while nm at_ k' b' o' at' body _ rfl _ rfl h ht hS x2 (ihc 0 _ _ _ _ _ rfl) x3 ihb hlen
 ·have e:innS 9 nm.data.toList (txX args) (txC cond) (txS body) (txS els)= [[99,97,108,108],nm.data.toList, [40]]++(betw ((txX args).map (arE 0))++([[41]]++ [[59]])):=rfl
  rw[e]at hlen ⊢
  exact ps_call nm at_ args _ rfl _ rfl _ rfl _ rfl h ht hS (nm_ne (nm_yes h3)) x1 ihx hlen
theorem ps_all:∀xs:Sts,okS xs=true→PSs xs
 | .nil,_=>fun i _ _ _ _ _ _ _ _ hd=>by cases i<;>simp[Sts.drop]at hd
 | .cons k nm args cond body els at_ rest,h=>fun i _ _ _ _ _ _ _ _ hd=>by
  have h':=h
  simp only[okS,Bool.and_eq_true]at h'
  cases i with
  |zero=>
   simp only[Sts.drop]at hd
   injection hd with e1 e2 e3 e4 e5 e6 e7 e8
   subst e1 e2 e3 e4 e5 e6
   exact ps_one k nm args cond body els (fun _=>by simp only[okT,Bool.and_eq_true];exact h'.1) (px_all args h'.1.1.1.1.2) (pc_all cond h'.1.1.1.2) (pb_any body (ps_all body h'.1.1.2)) (pb_any els (ps_all els h'.1.2))
  |succ i=>
   simp only[Sts.drop]at hd
   exact ps_all rest h'.2 i _ _ _ _ _ _ _ _ hd
theorem pb_all (xs:Sts) (h:okS xs=true):PB xs:=pb_any xs (ps_all xs h)

theorem cl1_any {B b:Nat} {v:Value} {w:World} {g1:Nat} (hk:Bk w g1 88 #[.pointer (some ⟨b,0,none⟩)]) (hn:¬Own b v g1) (nm:ByteArray) (at_:Int) (hnm:nm.data.toList≠ []):
  Puts 34 (#[.agg #[.string nm,.int .i64 at_]]++ #[.pointer (some ⟨g1,0,none⟩)]) B b v w [nm.data.toList]:=by
 intro v1 l1 wd1 w1 h1 hg hl
 obtain⟨W,hW⟩:=nmq (w1.alloc (.cells #[.string nm,.int .i64 at_] 43))
 have hf:Fr NoT w1 W:=by rw[hW];exact(Fr.refl _ _).alloc _
 have hk1:=(hg.bk hk hn).1
 have y0:=hk1.cell 0
 have yl:=hk1.lt
 simp only[getsL]at y0
 have HC:=hdq (put1_at (h1.fr hf) nm nm.data.toList rfl hnm hl (w1.heap.size+1) (by rw[hW];simp) _ rfl)
 have HF:=hdq hf
 have HWE:=hdq hW
 clear hk hn h1 hg hl hf hk1 hW hnm
 go_enter Tryz.func34,Tryz.ntmps34
 go_wp2_with fail
 rw[←HWE.out]
 refine HC.out.mono ?_
 rintro _ w2 ⟨v2,rfl,h2,hg2⟩
 have H2:=hdq (aiq h2 ((Went.of (b:=b) (v:=v1) HF.out).trans hg2))
 clear h2 hg2
 go_wp2_with fail
 go_end0
 exact⟨v2,rfl,H2.out.1,H2.out.2⟩
def SgA (b g1 nb:Nat) (nm:ByteArray) (n:Int) (W':World):Prop:=W'.cell? ⟨g1,0,none⟩=some (.pointer (some ⟨b,0,none⟩))∧W'.cell? ⟨nb,0,none⟩=some (.string nm)∧W'.cell? ⟨nb,1,none⟩=some (.int .i64 n)
theorem put4_at {B b:Nat} {v:Value} {l:List UInt8} {wd:Bool} {w:World} (h:WrAt B b v l wd w) (s s' s2 s3:ByteArray) (t t' t2 t3:List UInt8) (hs:s.data.toList=t) (hs':s'.data.toList=t') (hs2:s2.data.toList=t2) (hs3:s3.data.toList=t3) (ht:t≠ []) (ht':t'≠ []) (ht2:t2≠ []) (ht3:t3≠ []) (hlen:l.length+sumT [t,t',t2,t3]≤140737488355328) (n:Nat) (hn:w.heap.size=n) (W:World) (hW:W=w.alloc (.cells #[.string s,.string s',.string s2,.string s3] 9)):
  Calls Tryz.prog 35 #[.pointer (some ⟨b,0,none⟩),.slice (some ⟨n,0,none⟩) 4 4] W (PutW B b v (putsT (l,wd) [t,t',t2,t3]) (.tuple #[]) w):=by
 subst hn hW
 exact put4 h s s' s2 s3 t t' t2 t3 hs hs' hs2 hs3 ht ht' ht2 ht3 hlen
theorem cl2_any {B b:Nat} {v:Value} {l:List UInt8} {wd:Bool} {w:World} {g1:Nat} (hw:WrAt B b v l wd w) (htb:Tb B w) (hk:Bk w g1 88 #[.pointer (some ⟨b,0,none⟩)]) (hn:¬Own b v g1) (nm:ByteArray) (n at_:Int) (hnm:nm.data.toList≠ []) (hn64:in64 n) (hne:Lib.itoa n≠ []):
  Puts 38 (#[.agg #[.string nm,.int .i64 n,.int .i64 at_]]++ #[.pointer (some ⟨g1,0,none⟩)]) B b v w [nm.data.toList, [91],Lib.itoa n, [93]]:=by
 intro v1 l1 wd1 w1 h1 hg hl
 obtain⟨W,hW⟩:=nmq (w1.alloc (.cells #[.string nm,.int .i64 n,.int .i64 at_] 66))
 have hf:Fr NoT w1 W:=by rw[hW];exact(Fr.refl _ _).alloc _
 have hk1:=(hg.bk hk hn).1.fr0 hf
 have hkn:=(hg.bk hk hn).2
 have hkW:Bk W w1.heap.size 66 #[.string nm,.int .i64 n,.int .i64 at_]:=by rw[hW];exact Bk.new w1 _ _
 have hnW:=h1.new (lrq w1.heap.size)
 have HS:=hdq (show ∀W' v',Went b v1 v' W W'→SgA b g1 w1.heap.size nm n W' from fun W' v' hg=>⟨(hg.bk hk1 hkn).1.cell 0,(hg.bk hkW hnW).1.cell 0,(hg.bk hkW hnW).1.cell 1⟩)
 have HI:=hdq (itoa_fr n hn64 (((htb.went hg hw).fr hf h1.base).fr ((Fr.refl NoT W).drew) (h1.fr hf).base))
 have HH:=hdq (h1.fr hf)
 have HF:=hdq hf
 have HP:=hdq (fun(w0:World) (h0:WrAt B b v1 l1 wd1 w0)=>put4_at h0 nm ⟨#[91]⟩ ⟨(Lib.itoa n).toArray⟩ ⟨#[93]⟩ nm.data.toList [91] (Lib.itoa n) [93] rfl rfl (by simp) rfl hnm (by decide) hne (by decide) hl)
 have HWE:=hdq hW
 clear hk hn h1 hg hl hf hk1 hkn hkW hnW hnm hw htb hne
 go_enter Tryz.func38,Tryz.ntmps38
 go_wp2_with fail
 rw[←HWE.out]
 refine wp_region_E (SgA b g1 w1.heap.size nm n) (fun _=>true) (by kernel_rfl) (HS.out _ v1 (Went.of ((Fr.refl _ _).drew))) (fun hHeld=>?_)
 refine wpE_take 0 (v:=?_) rfl (by kernel_rfl) (fun _ _ _ h=>h) hHeld (by rfl) ?_ ?_;rotate_left
 ·intro wz hSz;(try dsimp only[SgA]at hSz);go_simp;try with_reducible rfl
 try simp only[putsL]
 refine wpE_pu 1 ?_
 try simp only[putsL]
 refine wpE_take 2 (v:=?_) rfl (by kernel_rfl) (fun _ _ _ h=>h) hHeld (by rfl) ?_ ?_;rotate_left
 ·intro wz hSz;(try dsimp only[SgA]at hSz);go_simp;try with_reducible rfl
 try simp only[putsL]
 refine wpE_pu 3 ?_
 try simp only[putsL]
 refine wpE_take 4 (v:=?_) rfl (by kernel_rfl) (fun _ _ _ h=>h) hHeld (by rfl) ?_ ?_;rotate_left
 ·intro wz hSz;(try dsimp only[SgA]at hSz);go_simp;try with_reducible rfl
 try simp only[putsL]
 refine wpE_next 5 rfl (by kernel_rfl) (fun KK hK=>?_)
 go_simp
 go_at_call 39
 try rw[←HWE.out]
 refine HI.out.mono ?_
 rintro _ w5 ⟨rfl,hf5⟩
 have hg5:=Went.of (b:=b) (v:=v1) (((Fr.refl NoT W).drew).trans hf5)
 have hs5:=HS.out w5 v1 hg5
 have H5:=hdq (HH.out.fr (((Fr.refl NoT W).drew).trans hf5))
 have HG5:=hdq hg5
 try dsimp only
 refine hK _ _ (fun _ _=>hs5) ?_
 clear hK KK hHeld hf5 hg5 hs5
 try simp only[putsL]
 refine wpE_next 6 rfl (by kernel_rfl) (fun KK hK=>?_)
 go_simp
 refine hK _ _ (fun _ _=>HS.out _ v1 (HG5.out.trans (Went.of ((Fr.refl _ _).alloc _)))) ?_
 clear hK KK
 try simp only[putsL]
 refine wpE_next 7 rfl (by kernel_rfl) (fun KK hK=>?_)
 go_simp
 go_at_call 35
 refine(HP.out _ H5.out _ rfl _ rfl).mono ?_
 rintro _ w6 ⟨v6,rfl,h6,hg6⟩
 have hs6:=HS.out w6 v6 (HG5.out.trans hg6)
 have H6:=hdq (aiq h6 ((Went.of (b:=b) (v:=v1) HF.out).trans (HG5.out.trans hg6)))
 try dsimp only
 refine hK _ _ (fun _ _=>hs6) ?_
 clear hK KK hs6 h6 hg6
 try simp only[putsL]
 refine wpE_done (by kernel_rfl) ?_
 go_wp2_with fail
 go_end0
 exact⟨v6,rfl,H6.out.1,H6.out.2⟩

theorem WrAt.beneath {B b:Nat} {v:Value} {l:List UInt8} {wd:Bool} {w:World} (h:WrAt B b v l wd w) {g:Nat} (hg:g < B):¬Own b v g:=by
 rintro(e|e)
 ·have:=h.low;omega
 ·rcases h.own.2 with⟨e1,_⟩|⟨q,cap,cur,e1,e2,_⟩
  ·rw[e1]at e;simp[Value.ownBlock]at e
  ·rw[e1]at e
   simp only[Value.ownBlock,Option.some.injEq]at e
   omega
structure PIn (w1:World) (b:Nat) (v1:Value) (n g1:Nat) (cs:Array Value) (B:Nat) (S:Nat→Prop) (w:World):Prop where
 k1:Bk w1 g1 88 #[.pointer (some ⟨b,0,none⟩)]
 n1:¬Own b v1 g1
 k0:Bk w1 n 27 cs
 tb:Tb B w1
 same:SameS S w w1
theorem PIn.cells {w1:World} {b:Nat} {v1:Value} {n g1:Nat} {y0 y1 y2 y3:Value} {B:Nat} {S:Nat→Prop} {w:World} (h:PIn w1 b v1 n g1 #[y0,y1,y2,y3] B S w):w1.cell? ⟨n,0,none⟩=some y0∧w1.cell? ⟨n,1,none⟩=some y1∧w1.cell? ⟨n,2,none⟩=some y2∧w1.cell? ⟨n,3,none⟩=some y3∧n < w1.heap.size∧w1.cell? ⟨g1,0,none⟩=some (.pointer (some ⟨b,0,none⟩))∧g1 < w1.heap.size:=
 ⟨h.k0.cell 0,h.k0.cell 1,h.k0.cell 2,h.k0.cell 3,h.k0.lt,h.k1.cell 0,h.k1.lt⟩
theorem tree_in {w W0 w1 W2:World} {S:Nat→Prop} {cs:Array Value} (hS:∀x,S x→x < w.heap.size) (htab:Lib.TabIs Tryz.prog w "internal/strconv.uint64pow10" .u64 Lib.pow10Tab) (h0:W0=w.alloc (.cells cs 27)) (hf1:Fr NoT W0 w1)
  (h2:W2=(w1.alloc (.cells #[.pointer none,.slice none 0 0,.bool false] 94)).alloc (.cells #[.pointer (some ⟨w1.heap.size,0,none⟩)] 88)):
  Fr NoT w w1∧WrAt w1.heap.size w1.heap.size (.slice none 0 0) [] false W2∧W2.heap.size=w1.heap.size+1+1∧(∀x,S x→x < w1.heap.size)∧∀w' v',Went w1.heap.size (.slice none 0 0) v' W2 w'→PIn w' w1.heap.size v' w.heap.size (w1.heap.size+1) cs w1.heap.size S w:=by
 have hf0:Fr NoT w W0:=by rw[h0];exact(Fr.refl _ _).alloc _
 have hf:Fr NoT w w1:=hf0.trans hf1
 have hk:Bk (w1.alloc (.cells #[.pointer none,.slice none 0 0,.bool false] 94)) w1.heap.size 94 #[.pointer none,.slice none 0 0,.bool false]:=Bk.new w1 _ _
 have hwk:WrAt w1.heap.size w1.heap.size (.slice none 0 0) [] false (w1.alloc (.cells #[.pointer none,.slice none 0 0,.bool false] 94)):=⟨lrq _,⟨_,.inl rfl,hk⟩,by
  refine⟨rfl,.inl ⟨rfl,rfl⟩⟩⟩
 have hw2:WrAt w1.heap.size w1.heap.size (.slice none 0 0) [] false W2:=by rw[h2];exact hwk.fr ((Fr.refl _ _).alloc _)
 have hS1:∀x,S x→x < w1.heap.size:=fun x hx=>ltq (hS x hx) hf.size
 have hn:w.heap.size < w1.heap.size:=by
  have:=hf1.size
  rw[h0]at this
  simp at this
  omega
 have hf2:Fr NoT w1 W2:=by rw[h2];exact((Fr.refl _ _).alloc _).alloc _
 have hk0:Bk W2 w.heap.size 27 cs:=by
  have:Bk W0 w.heap.size 27 cs:=by rw[h0];exact Bk.new w _ _
  exact(this.fr0 hf1).fr0 hf2
 have hk1:Bk W2 (w1.heap.size+1) 88 #[.pointer (some ⟨w1.heap.size,0,none⟩)]:=by rw[h2];exact Bk.new_at _ _ _ (by simp)
 have hn1:¬Own w1.heap.size (.slice none 0 0) (w1.heap.size+1):=by
  rintro(e|e)
  ·omega
  ·simp[Value.ownBlock]at e
 have ht1:Tb w1.heap.size w1:=by
  refine Lib.tabBelow_of_tabIs ?_
  unfold Lib.TabIs at htab ⊢
  exact var_keep hf.plain htab
 refine⟨hf,hw2,by rw[h2];simp,hS1,fun w' v' hg=>⟨(hg.bk hk1 hn1).1,(hg.bk hk1 hn1).2,(hg.bk hk0 (hw2.beneath hn)).1,(ht1.fr hf2 (lrq _)).went hg hw2,((hf.trans hf2).same fun x hx=>⟨hS x hx,id⟩).trans (hg.same hw2 hS1)⟩⟩
theorem went_fr {w w1 W2 w':World} {v:Value} {l:List UInt8} {wd:Bool} (hf:Fr NoT w w1) (hf2:Fr NoT w1 W2) (hw:WrAt w1.heap.size w1.heap.size v l wd W2) (hg:Below w1.heap.size W2 w'):Fr NoT w w':=by
 have h1:Fr (fun i=>w1.heap.size≤i) w w':=by
  have h2:Fr (fun i=>w1.heap.size≤i) W2 w':=Fr.of hg fun i _ h=>h
  exact((hf.trans hf2).any).trans h2
 exact h1.mono fun i hi h=>absurd hf.size (by omega)
theorem putsT_ne:∀ {s:List UInt8×Bool} (h:s.1≠ []) (a:Tx),(putsT s a).1 ≠ []
 |s,h, []=>h
 |s,h,t::r=>putsT_ne (s:=putT s t) (by unfold putT;simp[h]) r
theorem putsT_ne1 (s:List UInt8×Bool) {t:List UInt8} (h:t≠ []):(putsT s [t]).1 ≠ []:=by
 show(putT s t).1 ≠ []
 unfold putT
 split<;>simp[h]
theorem get_drop1 {α:Type} {l:List α} {i:Nat} {x:α} {r:List α} (h:l.drop i=x::r):l[i]?=some x:=by
 have:=congrArg List.head? h
 simpa using this
theorem nm_ne' {l:List UInt8} (h:nameB l=true):l≠ []:=by
 rintro rfl
 simp[nameB,runB]at h
theorem print_bad (t:Tre) (w:World) (S:Nat→Prop) (Z:Prop) (Av Aa Ap Am:Option Addr) (cv ca cp cm:Nat) (he:SpEnv w) (hS:∀b,S b→b < w.heap.size) (hsz:SzT t) (hx:TrR w S Z t Av Aa Ap Am cv ca cp cm) (ht:okTr t=false):
  Calls Tryz.prog 12 #[trV t Av Aa Ap Am cv ca cp cm] w fun e w'=>e= .returned (.tuple #[.string ⟨#[]⟩,.int .i64 8])∧Fr NoT w w':=by
 have hf0:Fr NoT w (w.alloc (.cells #[.slice Av t.vars.length cv,.slice Aa t.arrays.length ca,.slice Ap t.procs.length cp,.slice Am t.main.len cm] 27)):=(Fr.refl _ _).alloc _
 have hc:=pcheck_any t _ S Z Av Aa Ap Am cv ca cp cm (he.keep hf0.plain) (fun b hb=>ltq (hS b hb) hf0.size) hsz (hx.keep (hf0.same fun b hb=>⟨hS b hb,id⟩))
 rw[ht]at hc
 unfold trV at hc ⊢
 have HC:=hdq hc
 have HF:=hdq hf0
 obtain⟨n1,hn1⟩:=nmq t.vars.length
 obtain⟨n2,hn2⟩:=nmq t.arrays.length
 obtain⟨n3,hn3⟩:=nmq t.procs.length
 obtain⟨n4,hn4⟩:=nmq t.main.len
 rw[←hn1,←hn2,←hn3,←hn4]at HC HF ⊢
 clear he hS hsz hx ht hc hf0 hn1 hn2 hn3 hn4
 go_enter Tryz.func12,Tryz.ntmps12
 go_wp2_with fail
 refine HC.out.mono ?_
 rintro _ w1 ⟨rfl,hf1⟩
 have H1:=hdq (HF.out.trans hf1)
 clear hf1 HC
 go_wp2_with fail
 go_ret2
 exact⟨rfl,H1.out⟩
theorem print_ok (t:Tre) (w:World) (S:Nat→Prop) (Z:Prop) (Av Aa Ap Am:Option Addr) (cv ca cp cm:Nat) (he:SpEnv w) (htab:Lib.TabIs Tryz.prog w "internal/strconv.uint64pow10" .u64 Lib.pow10Tab) (hS:∀b,S b→b < w.heap.size) (hsz:SzT t) (hx:TrR w S Z t Av Aa Ap Am cv ca cp cm) (ht:okTr t=true) (hlen:sumT (treT t)≤140737488355328):
  Calls Tryz.prog 12 #[trV t Av Aa Ap Am cv ca cp cm] w fun e w'=>e= .returned (.tuple #[.string ⟨(printB t).toArray⟩,.int .i64 0])∧Fr NoT w w':=by
 have hf0:Fr NoT w (w.alloc (.cells #[.slice Av t.vars.length cv,.slice Aa t.arrays.length ca,.slice Ap t.procs.length cp,.slice Am t.main.len cm] 27)):=(Fr.refl _ _).alloc _
 have hc:=pcheck_any t _ S Z Av Aa Ap Am cv ca cp cm (he.keep hf0.plain) (fun b hb=>ltq (hS b hb) hf0.size) hsz (hx.keep (hf0.same fun b hb=>⟨hS b hb,id⟩))
 rw[ht]at hc
 unfold trV at hc ⊢
 simp only[okTr,Bool.and_eq_true]at ht
 obtain⟨⟨⟨o1,o2⟩,o3⟩,o4⟩:=ht
 -- the tokens
 obtain⟨T1,hT1⟩:∃y:Tx,y=varsT t.vars:=⟨_,rfl⟩
 obtain⟨T2,hT2⟩:∃y:Tx,y=arrsT t.arrays:=⟨_,rfl⟩
 obtain⟨T3,hT3⟩:∃y:List Tx,y=t.procs.map prcT:=⟨_,rfl⟩
 obtain⟨T4,hT4⟩:∃y:Tx,y=blkT (txS t.main):=⟨_,rfl⟩
 have hTT:treT t=T1++(T2++(T3.flatten++([[109,97,105,110]]++T4))):=by
  rw[hT1,hT2,hT3,hT4]
  unfold treT
  rw[List.flatMap_def]
  rfl
 have hPB:printB t=(putsT (putsT (putsT (putsT (putsT ([],false) T1) T2) T3.flatten) [[109,97,105,110]]) T4).1 :=by
  unfold printB
  rw[hTT,putsT_app,putsT_app,putsT_app,putsT_app]
 have hPN:(putsT (putsT (putsT (putsT (putsT ([],false) T1) T2) T3.flatten) [[109,97,105,110]]) T4).1 ≠ []:=by
  exact putsT_ne (putsT_ne1 _ (by decide)) _
 rw[hTT]at hlen
 rw[hPB]
 have r0:(([],false):List UInt8×Bool).1.length +sumT (T1++(T2++(T3.flatten++([[109,97,105,110]]++T4))))≤140737488355328:=by simpa using hlen
 obtain⟨q0,r1⟩:=room2 r0
 obtain⟨q1,r2⟩:=room2 r1
 obtain⟨q2,r3⟩:=room2 r2
 obtain⟨q3,q4⟩:=room2 r3
 have HQ:=hdq (aiq q0 (aiq q1 (aiq q2 (aiq q3 q4))))
 have HC:=hdq hc
 have hent1:Enters Tryz.prog 34:=enters_of Tryz.func34 (by kernel_rfl) rfl
 have hent2:Enters Tryz.prog 38:=enters_of Tryz.func38 (by kernel_rfl) rfl
 have HE1:=hdq hent1
 have HE2e:=hdq hent2
 have hvn:∀v∈t.vars,v.nm.data.toList≠ []:=fun v hv=>nm_ne' (okVs_mem o1 v hv)
 have han:∀v∈t.arrays,v.nm.data.toList≠ []∧Lib.itoa v.size≠ []:=fun v hv=>by
  obtain⟨h1,h2⟩:=okAs_mem o3 v hv
  refine⟨nm_ne' h1,?_⟩
  obtain⟨u,hu⟩:∃u:Nat,v.size=u:=⟨v.size.toNat,by omega⟩
  rw[hu,Lib.itoa_nonneg]
  exact dec_ne u
 have hpn:∀p∈t.procs,p.nm.data.toList≠ []∧(∀v∈p.params,v.nm.data.toList≠ [])∧PB p.body:=fun p hp=>by
  obtain⟨h1,h2,h3⟩:=okPs_mem o4 p hp
  exact⟨nm_ne' h1,fun v hv=>nm_ne' (okVs_mem h2 v hv),pb_all p.body h3⟩
 have hpm:PB t.main:=pb_all t.main o2
 have HIN:=hdq (fun(W0 w1 W2:World) (cs:Array Value) (h0:W0=w.alloc (.cells cs 27)) (hf1:Fr NoT W0 w1) (h2:W2=(w1.alloc (.cells #[.pointer none,.slice none 0 0,.bool false] 94)).alloc (.cells #[.pointer (some ⟨w1.heap.size,0,none⟩)] 88))=>tree_in hS htab h0 hf1 h2)
 obtain⟨n1,hn1⟩:=nmq t.vars.length
 obtain⟨n2,hn2⟩:=nmq t.arrays.length
 obtain⟨n3,hn3⟩:=nmq t.procs.length
 obtain⟨n4,hn4⟩:=nmq t.main.len
 have h63:n3≤9223372036854775807:=by rw[hn3];exact leq9 hx.procs.1 hx.procs.2.1.1
 have HX:=hdq hx
 have HN:=hdq (aiq hn1 (aiq hn2 (aiq hn3 hn4)))
 have HT:=hdq (aiq hT1 (aiq hT2 (aiq hT3 hT4)))
 have HNE:=hdq (aiq hvn (aiq han (aiq hpn hpm)))
 have HPN:=hdq hPN
 have e1:(decide ((0:Int) < (n1:Int))=false∧decide (0 < n1)=false∧T1= [])∨(decide ((0:Int) < (n1:Int))=true∧decide (0 < n1)=true∧T1= [[118,97,114]]++(namT t.vars++ [[59]])):=by
  rcases Nat.eq_zero_or_pos n1 with h|h
  ·left
   have hv:t.vars= []:=List.length_eq_zero_iff.1 (hn1.symm.trans h)
   exact⟨by simp[h],by simp[h],by rw[hT1,hv];rfl⟩
  ·right
   have hv:t.vars≠ []:=fun e=>by rw[e]at hn1;simp at hn1;omega
   refine⟨by simp;omega,by simp;omega,?_⟩
   rw[hT1]
   unfold varsT
   rw[if_neg hv]
   rfl
 have e2:(decide ((0:Int) < (n2:Int))=false∧decide (0 < n2)=false∧T2= [])∨(decide ((0:Int) < (n2:Int))=true∧decide (0 < n2)=true∧T2= [[97,114,114,97,121]]++(betw (t.arrays.map arrT)++ [[59]])):=by
  rcases Nat.eq_zero_or_pos n2 with h|h
  ·left
   have hv:t.arrays= []:=List.length_eq_zero_iff.1 (hn2.symm.trans h)
   exact⟨by simp[h],by simp[h],by rw[hT2,hv];rfl⟩
  ·right
   have hv:t.arrays≠ []:=fun e=>by rw[e]at hn2;simp at hn2;omega
   refine⟨by simp;omega,by simp;omega,?_⟩
   rw[hT2]
   unfold arrsT
   rw[if_neg hv]
   rfl
 have HE2:=hdq e2
 have HSS:=hdq hS
 obtain⟨TZ,hTZ⟩:=nmq ((putsT (putsT (putsT (putsT (putsT ([],false) T1) T2) T3.flatten) [[109,97,105,110]]) T4).1 )
 rw[←hTZ]
 have HTZ:=hdq hTZ
 obtain⟨W0,hW0⟩:=nmq (w.alloc (.cells #[.slice Av t.vars.length cv,.slice Aa t.arrays.length ca,.slice Ap t.procs.length cp,.slice Am t.main.len cm] 27))
 replace HC:=hdq (show Calls Tryz.prog 15 #[.agg #[.slice Av t.vars.length cv,.slice Aa t.arrays.length ca,.slice Ap t.procs.length cp,.slice Am t.main.len cm]] W0 (ErrI 0 W0)from by rw[hW0];exact HC.out)
 rw[←hn1,←hn2,←hn3,←hn4]at HC hW0 ⊢
 have HW0:=hdq hW0
 unfold Enters at hent1 hent2
 clear he htab hS hsz hx hc hf0 hn1 hn2 hn3 hn4 hT1 hT2 hT3 hT4 hTT hPB hPN hlen r0 r1 r2 r3 q0 q1 q2 q3 q4 o1 o2 o3 o4 hvn han hpn hpm hW0 hTZ e2
 go_enter Tryz.func12,Tryz.ntmps12
 go_wp2_with fail
 rw[←HW0.out]
 refine HC.out.mono ?_
 rintro _ w1 ⟨rfl,hf1⟩
 obtain⟨W2,hW2⟩:=nmq ((w1.alloc (.cells #[.pointer none,.slice none 0 0,.bool false] 94)).alloc (.cells #[.pointer (some ⟨w1.heap.size,0,none⟩)] 88))
 obtain⟨hfw,hw2,hsz2,hS1,hB⟩:=HIN.out W0 w1 W2 _ HW0.out hf1 hW2
 have HB:=hdq hB
 have HFW:=hdq hfw
 have HS1:=hdq hS1
 have HWE2:=hdq hW2
 have HV00:=hdq hw2
 have HV0:=hdq (aiq hw2 (Went.refl w1.heap.size (.slice none 0 0) W2))
 have HF2:=hdq (show Fr NoT w1 W2 from by rw[hW2];exact((Fr.refl _ _).alloc _).alloc _)
 clear hf1 hfw hw2 hsz2 hS1 hB hW2 HC
 go_upto_region 6 with fail
 rw[←HWE2.out]
 rcases e1 with⟨c1,c1n,hz⟩|⟨c1,c1n,hz⟩
 case' inl=>
  have HV:=hdq (aiq (show WrAt _ _ _ (putsT ([],false) T1).1 (putsT ([],false) T1).2 _ from by rw[hz];exact HV0.out.1) HV0.out.2)
  have hin:=HB.out _ _ HV.out.2
  obtain⟨x0,x1,x2,x3,xl,z0,zl⟩:=hin.cells
  clear hin HV0 hz
  go_upto_region 10 with fail
  clear x0 x1 x2 x3 xl z0 zl c1 c1n HWE2
 case' inr=>
  have hq:(([],false):List UInt8×Bool).1.length +sumT T1≤140737488355328:=HQ.out.1
  rw[hz]at hq
  obtain⟨q5,q6⟩:=room2 hq
  obtain⟨q7,q8⟩:=room2 q6
  have HQ5:=hdq (aiq q5 (aiq q7 q8))
  have HZ:=hdq hz
  clear hq q5 q6 q7 q8 hz
  have hin:=HB.out _ _ HV0.out.2
  obtain⟨x0,x1,x2,x3,xl,z0,zl⟩:=hin.cells
  have HC:=hdq (put1 HV0.out.1 ⟨#[118,97,114]⟩ [118,97,114] rfl (by decide) HQ5.out.1)
  clear hin
  go_wp2_with fail
  refine HC.out.mono ?_
  rintro _ wq ⟨vq,rfl,hh,hg⟩
  have G1:=hdq (aiq hh (HV0.out.2.trans hg))
  clear hh hg HC x0 x1 x2 x3 xl z0 zl
  have hin:=HB.out _ _ G1.out.2
  obtain⟨x0,x1,x2,x3,xl,z0,zl⟩:=hin.cells
  have HC:=hdq (betwVa_any t.vars (t.vars.map fun v=> [v.nm.data.toList]) (by simp) 34 #[.pointer (some ⟨w1.heap.size+1,0,none⟩)] G1.out.1 HS1.out (HX.out.vars.imp fun _ _ hx=>VaR.keep hin.same hx) HE1.out (fun i a0 a1 ar hd tt htt=>by
    have hm:=mem_drop1 hd
    rw[List.getElem?_map,get_drop1 hd]at htt
    simp only[Option.map_some,Option.some.injEq]at htt
    subst htt
    exact cl1_any hin.k1 hin.n1 a0 a1 (HNE.out.1 _ hm)) HQ5.out.2.1)
  rw[←HN.out.1]at HC
  clear hin
  go_wp2_with fail
  refine HC.out.mono ?_
  rintro _ wq ⟨vq,rfl,hh,hg⟩
  have G2:=hdq (aiq hh (G1.out.2.trans hg))
  clear hh hg HC x0 x1 x2 x3 xl z0 zl G1
  have hin:=HB.out _ _ G2.out.2
  obtain⟨x0,x1,x2,x3,xl,z0,zl⟩:=hin.cells
  have HC:=hdq (put1 G2.out.1 ⟨#[59]⟩ [59] rfl (by decide) HQ5.out.2.2)
  clear hin
  go_wp2_with fail
  refine HC.out.mono ?_
  rintro _ wq ⟨vq,rfl,hh,hg⟩
  have G3:=hdq (aiq hh (G2.out.2.trans hg))
  clear hh hg HC x0 x1 x2 x3 xl z0 zl G2
  have HV:=hdq (aiq (show WrAt _ _ _ (putsT ([],false) T1).1 (putsT ([],false) T1).2 _ from by rw[HZ.out];exact G3.out.1.puts.puts) G3.out.2)
  clear G3 HZ HQ5
  have hin:=HB.out _ _ HV.out.2
  obtain⟨x0,x1,x2,x3,xl,z0,zl⟩:=hin.cells
  clear hin
  go_upto_region 10 with fail
  clear x0 x1 x2 x3 xl z0 zl c1 c1n HWE2
 all_goals
  have e2':=HE2.out
  rcases e2' with⟨c2,c2n,hz⟩|⟨c2,c2n,hz⟩
  case' inl=>
   have HA:=hdq (aiq (show WrAt _ _ _ (putsT (putsT ([],false) T1) T2).1 (putsT (putsT ([],false) T1) T2).2 _ from by rw[hz];exact HV.out.1) HV.out.2)
   have hin:=HB.out _ _ HA.out.2
   obtain⟨x0,x1,x2,x3,xl,z0,zl⟩:=hin.cells
   clear hin HV hz
   go_upto_region 14 with fail
   clear x0 x1 x2 x3 xl z0 zl c2 c2n
  case' inr=>
   have hq:=HQ.out.2.1
   rw[hz]at hq
   obtain⟨q5,q6⟩:=room2 hq
   obtain⟨q7,q8⟩:=room2 q6
   have HQ5:=hdq (aiq q5 (aiq q7 q8))
   have HZ:=hdq hz
   clear hq q5 q6 q7 q8 hz
   have hin:=HB.out _ _ HV.out.2
   obtain⟨x0,x1,x2,x3,xl,z0,zl⟩:=hin.cells
   have HC:=hdq (put1 HV.out.1 ⟨#[97,114,114,97,121]⟩ [97,114,114,97,121] rfl (by decide) HQ5.out.1)
   clear hin
   go_wp2_with fail
   refine HC.out.mono ?_
   rintro _ wq ⟨vq,rfl,hh,hg⟩
   have G1:=hdq (aiq hh (HV.out.2.trans hg))
   clear hh hg HC x0 x1 x2 x3 xl z0 zl
   have hin:=HB.out _ _ G1.out.2
   obtain⟨x0,x1,x2,x3,xl,z0,zl⟩:=hin.cells
   have HC:=hdq (betwAr_any t.arrays (t.arrays.map arrT) (by simp) 38 #[.pointer (some ⟨w1.heap.size+1,0,none⟩)] G1.out.1 HS1.out (HX.out.arrays.imp fun _ _ hx=>ArR.keep hin.same hx) HE2e.out (fun i a0 a1 a2 ar hd hn3 tt htt=>by
     have hm:=mem_drop1 hd
     rw[List.getElem?_map,get_drop1 hd]at htt
     simp only[Option.map_some,Option.some.injEq]at htt
     subst htt
     exact cl2_any G1.out.1 hin.tb hin.k1 hin.n1 a0 a1 a2 (HNE.out.2.1 _ hm).1 hn3 (HNE.out.2.1 _ hm).2) HQ5.out.2.1)
   rw[←HN.out.2.1]at HC
   clear hin
   go_wp2_with fail
   refine HC.out.mono ?_
   rintro _ wq ⟨vq,rfl,hh,hg⟩
   have G2:=hdq (aiq hh (G1.out.2.trans hg))
   clear hh hg HC x0 x1 x2 x3 xl z0 zl G1
   have hin:=HB.out _ _ G2.out.2
   obtain⟨x0,x1,x2,x3,xl,z0,zl⟩:=hin.cells
   have HC:=hdq (put1 G2.out.1 ⟨#[59]⟩ [59] rfl (by decide) HQ5.out.2.2)
   clear hin
   go_wp2_with fail
   refine HC.out.mono ?_
   rintro _ wq ⟨vq,rfl,hh,hg⟩
   have G3:=hdq (aiq hh (G2.out.2.trans hg))
   clear hh hg HC x0 x1 x2 x3 xl z0 zl G2
   have HA:=hdq (aiq (show WrAt _ _ _ (putsT (putsT ([],false) T1) T2).1 (putsT (putsT ([],false) T1) T2).2 _ from by rw[HZ.out];exact G3.out.1.puts.puts) G3.out.2)
   clear G3 HZ HQ5
   have hin:=HB.out _ _ HA.out.2
   obtain⟨x0,x1,x2,x3,xl,z0,zl⟩:=hin.cells
   clear hin
   go_upto_region 14 with fail
   clear x0 x1 x2 x3 xl z0 zl c2 c2n
  all_goals
   have hin:=HB.out _ _ HA.out.2
   obtain⟨x0,x1,x2,x3,xl,z0,zl⟩:=hin.cells
   clear hin
   go_wp2_with fail
   go_loopw [50] (fun i wr=>∃(k:Nat) (v':Value),k≤n3∧i= .int .i64 k∧Hid (WrAt w1.heap.size w1.heap.size v' (putsT (putsT (putsT ([],false) T1) T2) (T3.take k).flatten).1 (putsT (putsT (putsT ([],false) T1) T2) (T3.take k).flatten).2 wr)∧Hid (Went w1.heap.size (.slice none 0 0) v' W2 wr)) (fun i _=>n3 - (intOf i).toNat)
   case atStart=>exact⟨0,_,Nat.zero_le _,rfl,HA.out.1,HA.out.2⟩
   case round=>
    obtain⟨k,v',hk,rfl,hw,hwent⟩:=hrel
    clear x0 x1 x2 x3 xl z0 zl HA
    by_cases hlt:k < n3
    ·-- <PR>
     obtain⟨⟨a0,a1,a2,a3⟩,ar,hd,_⟩:=drop_head1 (show k < t.procs.length from by rw[←HN.out.2.2.1];exact hlt)
     obtain⟨bA,oA,rfl,hat⟩:=HX.out.procs.2.2 (by rw[←HN.out.2.2.1];omega)
     have hin:=HB.out _ _ hwent.out
     have hat1:=(PrR.keep hin.same hat).drop k
     rw[hd]at hat1
     obtain⟨⟨hbS,_,_,d0,d3⟩,⟨B1,e1,d1,s1⟩,⟨B2,e2,d2,s2⟩,_⟩:=hat1
     try simp only at d0 d1 d2 d3 s1 s2
     have hxr:bA < wr.heap.size:=ltq (HS1.out _ hbS) hw.out.base
     have hlt':(k:Int) < (n3:Int):=by omega
     have hge:(0:Int)≤(k:Int):=by omega
     have hm:=mem_drop1 hd
     have hpp:=HNE.out.2.2.1 _ hm
     simp only at hpp
     have ht3:T3[k]?=some (prcT ⟨a0,a1,a2,a3⟩):=by rw[HT.out.2.2.1,List.getElem?_map,get_drop1 hd];rfl
     have hnx:=flat_next ht3
     have hsum:=flat_sum (ts:=T3) (k:=k+1)
     rw[hnx]at hsum
     have hroom:(putsT (putsT ([],false) T1) T2).1.length +sumT ((T3.take k).flatten ++prcT ⟨a0,a1,a2,a3⟩)≤140737488355328:=by have:=HQ.out.2.2.1;omega
     have hr:=putsT_room hroom
     rw[show prcT ⟨a0,a1,a2,a3⟩= [[112,114,111,99],a0.data.toList, [40]]++(namT a1++([[41]]++blkT (txS a2)))from rfl]at hr hnx
     obtain⟨q5,q6⟩:=room2 hr
     obtain⟨q7,q8⟩:=room2 q6
     obtain⟨q9,q10⟩:=room2 q8
     obtain⟨W,hW⟩:=nmq (wr.alloc (.cells #[.string a0,.slice B1 a1.length e1,.slice B2 a2.len e2,.int .i64 a3] 68))
     have hf:Fr NoT wr W:=by rw[hW];exact(Fr.refl _ _).alloc _
     have hk7:Bk W wr.heap.size 68 #[.string a0,.slice B1 a1.length e1,.slice B2 a2.len e2,.int .i64 a3]:=by rw[hW];exact Bk.new wr _ _
     have hn7:=hw.out.new (lrq wr.heap.size)
     have hsz:W.heap.size=wr.heap.size+1:=by rw[hW];simp
     have HP7:=hdq (show ∀w' v2,Went w1.heap.size v' v2 W w'→Bk w' wr.heap.size 68 #[.string a0,.slice B1 a1.length e1,.slice B2 a2.len e2,.int .i64 a3]from fun w' v2 hg=>(hg.bk hk7 hn7).1)
     have HPS:=hdq (show ∀w',SameS S w w'→SlR (VaR w' S Z a1) a1.length 24 B1 e1∧SlR (StR w' S Z a2) a2.len 128 B2 e2 from fun w' hs=>by
      have hat2:=(PrR.keep hs hat).drop k
      rw[hd]at hat2
      obtain⟨_,⟨B1',e1',d1',s1'⟩,⟨B2',e2',d2',s2'⟩,_⟩:=hat2
      have g1:=(hin.same ⟨bA,oA+k*4+1,none⟩ hbS).1
      have g2:=(hin.same ⟨bA,oA+k*4+2,none⟩ hbS).1
      have f1:=(hs ⟨bA,oA+k*4+1,none⟩ hbS).1
      have f2:=(hs ⟨bA,oA+k*4+2,none⟩ hbS).1
      have k1:=(g1.trans (f1.symm.trans d1')).symm.trans d1
      have k2:=(g2.trans (f2.symm.trans d2')).symm.trans d2
      simp only[Option.some.injEq,Value.slice.injEq,true_and]at k1 k2
      rw[←k1.1,←k1.2,←k2.1,←k2.2]
      exact⟨s1',s2'⟩)
     have HST:=hdq (aiq (hw.out.fr hf) (Went.refl w1.heap.size v' W))
     have HGW:=hdq (hwent.out.trans (Went.of hf))
     have HQ5:=hdq (aiq q5 (aiq q7 (aiq q9 q10)))
     have HNX:=hdq hnx
     have HPP:=hdq hpp
     have HWE:=hdq hW
     have HC:=hdq (put3 HST.out.1 ⟨#[112,114,111,99]⟩ a0 ⟨#[40]⟩ [112,114,111,99] a0.data.toList [40] rfl rfl rfl (by decide) hpp.1 (by decide) HQ5.out.1)
     rw[hsz]at HC
     have z0:=hin.k1.cell 0
     have zl:=hin.k1.lt
     simp only[getsL]at z0
     clear hin hd hat hw hwent hbS s1 s2 hm hpp ht3 hnx hsum hroom hr q5 q6 q7 q8 q9 q10 hf hk7 hn7 hsz hW
     go_wp2_with fail
     rw[←HWE.out]
     refine HC.out.mono ?_
     rintro _ wq ⟨vq,rfl,hh,hg⟩
     have G1:=hdq (aiq hh hg)
     clear hh hg HC z0 zl d0 d1 d2 d3 HWE
     have hin:=HB.out _ _ (HGW.out.trans G1.out.2)
     have hk7:=HP7.out _ _ G1.out.2
     have z0:=hin.k1.cell 0
     have zl:=hin.k1.lt
     have k0:=hk7.cell 0
     have k1:=hk7.cell 1
     have k2:=hk7.cell 2
     have kl:=hk7.lt
     simp only[getsL]at z0 k0 k1 k2
     clear hk7
     have HC:=hdq (betwVa_any a1 (a1.map fun v=> [v.nm.data.toList]) (by simp) 34 #[.pointer (some ⟨w1.heap.size+1,0,none⟩)] G1.out.1 HS1.out (HPS.out _ hin.same).1 HE1.out (fun i b0 b1 br hd tt htt=>by
      have hm:=mem_drop1 hd
      rw[List.getElem?_map,get_drop1 hd]at htt
      simp only[Option.map_some,Option.some.injEq]at htt
      subst htt
      exact cl1_any hin.k1 hin.n1 b0 b1 (HPP.out.2.1 _ hm)) HQ5.out.2.1)
     clear hin
     go_wp2_with fail
     refine HC.out.mono ?_
     rintro _ wq ⟨vq,rfl,hh,hg⟩
     have G2:=hdq (aiq hh (G1.out.2.trans hg))
     clear hh hg HC z0 zl k0 k1 k2 kl G1
     have hin:=HB.out _ _ (HGW.out.trans G2.out.2)
     have hk7:=HP7.out _ _ G2.out.2
     have z0:=hin.k1.cell 0
     have zl:=hin.k1.lt
     have k0:=hk7.cell 0
     have k1:=hk7.cell 1
     have k2:=hk7.cell 2
     have kl:=hk7.lt
     simp only[getsL]at z0 k0 k1 k2
     clear hk7
     have HC:=hdq (put1 G2.out.1 ⟨#[41]⟩ [41] rfl (by decide) HQ5.out.2.2.1)
     clear hin
     go_wp2_with fail
     refine HC.out.mono ?_
     rintro _ wq ⟨vq,rfl,hh,hg⟩
     have G3:=hdq (aiq hh (G2.out.2.trans hg))
     clear hh hg HC z0 zl k0 k1 k2 kl G2
     have hin:=HB.out _ _ (HGW.out.trans G3.out.2)
     have hk7:=HP7.out _ _ G3.out.2
     have z0:=hin.k1.cell 0
     have zl:=hin.k1.lt
     have k0:=hk7.cell 0
     have k1:=hk7.cell 1
     have k2:=hk7.cell 2
     have kl:=hk7.lt
     simp only[getsL]at z0 k0 k1 k2
     clear hk7
     have HC:=hdq (HPP.out.2.2 w1.heap.size w1.heap.size _ _ _ _ S Z B2 e2 G3.out.1 hin.tb HS1.out (HPS.out _ hin.same).2 HQ5.out.2.2.2)
     clear hin
     go_wp2_with fail
     refine HC.out.mono ?_
     rintro _ wq ⟨vq,rfl,hh,hg⟩
     have G4:=hdq (aiq hh.puts.puts.puts.puts (G3.out.2.trans hg))
     clear hh hg HC z0 zl k0 k1 k2 kl G3
     go_wp2_with fail
     go_roundw
     case rel=>exact⟨k+1,vq,by omega,by go_num,by rw[HNX.out];exact G4.out.1,HGW.out.trans G4.out.2⟩
     case measure=>simp[intOf];omega
    ·-- <EN>
     have e:T3.take k=T3:=List.take_of_length_le (by rw[HT.out.2.2.1,List.length_map,←HN.out.2.2.1];omega)
     rw[e]at hw
     have G0:=hdq (aiq hw.out hwent.out)
     clear hw hwent e
     have hin:=HB.out _ _ G0.out.2
     obtain⟨x0,x1,x2,x3,xl,z0,zl⟩:=hin.cells
     have HC:=hdq (put1 G0.out.1 ⟨#[109,97,105,110]⟩ [109,97,105,110] rfl (by decide) HQ.out.2.2.2.1)
     clear hin
     go_wp2_with fail
     refine HC.out.mono ?_
     rintro _ wq ⟨vq,rfl,hh,hg⟩
     have G1:=hdq (aiq hh (G0.out.2.trans hg))
     clear hh hg HC x0 x1 x2 x3 xl z0 zl G0
     have hin:=HB.out _ _ G1.out.2
     obtain⟨x0,x1,x2,x3,xl,z0,zl⟩:=hin.cells
     have HC:=hdq (HNE.out.2.2.2 w1.heap.size w1.heap.size _ _ _ _ S Z Am cm G1.out.1 hin.tb HS1.out (HX.out.main.imp fun _ _ hx=>StR.keep hin.same hx) (by rw[←HT.out.2.2.2];exact HQ.out.2.2.2.2))
     rw[←HT.out.2.2.2,←HN.out.2.2.2]at HC
     clear hin
     go_wp2_with fail
     refine HC.out.mono ?_
     rintro _ wq ⟨vq,rfl,hh,hg⟩
     have G2:=hdq (aiq hh (G1.out.2.trans hg))
     clear hh hg HC x0 x1 x2 x3 xl z0 zl G1
     have hin:=HB.out _ _ G2.out.2
     obtain⟨x0,x1,x2,x3,xl,z0,zl⟩:=hin.cells
     have HC:=hdq (bText_any G2.out.1 HPN.out)
     clear hin
     go_wp2_with fail
     refine HC.out.mono ?_
     rintro _ wz ⟨rfl,hb⟩
     have HBZ:=hdq hb
     clear hb HC x0 x1 x2 x3 xl z0 zl
     go_wp2_with fail
     go_ret2
     exact⟨by rw[HTZ.out];rfl,went_fr HFW.out HF2.out HV00.out ((G2.out.2.below HV00.out).trans HBZ.out)⟩
end Go.Proofs.YtmopichdofgndaaGreatDoor
