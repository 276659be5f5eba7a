/-
  check: the map of what has a name, as a function.
-/
import Derived.Test.YtfomomaomggpbaaGreatDoorJnCkC
import Derived.Test.YtfomomaomggpbaaGreatDoorJgInE
import Derived.StillTail
set_option linter.unusedVariables false
set_option linter.unusedSimpArgs false
set_option maxHeartbeats 3200000
set_option maxRecDepth 100000
namespace Go.Proofs.YtfomomaomggpbaaGreatDoor
open Go.RowKit Go.Shelf Go.Maps

abbrev Kn:=List UInt8→Option (Int×Int)
def thV (v:Int×Int):Value:= .agg #[.int .u8 v.1,.int .i64 v.2]
def Kn.put (kn:Kn) (t:List UInt8) (v:Int×Int):Kn:=fun x=>if x=t then some v else kn x
def Kn.del (kn:Kn) (t:List UInt8):Kn:=fun x=>if x=t then none else kn x
def KnM (w:World) (b n:Nat) (kn:Kn):Prop:=
 ∃D,w.ownsMap Tryz.prog 9 heldB b n D∧∀t:List UInt8,Maps.has D (.string t)=(kn t).isSome ∧(∀v,kn t=some v→∀z,D.atKey (.string t) z= .held (thV v))∧(kn t=none→∀z,D.atKey (.string t) z=z)
theorem KnM.made (w:World):KnM (w.alloc (.map #[] 0)) w.heap.size 0 fun _=>none:=⟨_,World.ownsMap_made _ _ _ _,fun t=>⟨rfl,fun v h=>by simp at h,fun _ z=>rfl⟩⟩
theorem keyB' {s:ByteArray} (h:s.size≤9223372036854775807):keyOf Tryz.prog 9 (.string s)=some (.string s.data.toList):=
 WideMaps.keyOf_string_mk (P:=Tryz.prog) Tryz.underlying9 (s:=s) (by unfold maxLen;omega)
theorem KnM.lt {w:World} {b n:Nat} {kn:Kn} (h:KnM w b n kn):b < w.heap.size:=by
 obtain⟨D,hown,_⟩:=h
 exact hown.lt
theorem KnM.put {w:World} {b n:Nat} {kn:Kn} (h:KnM w b n kn) {s:ByteArray} (hs:s.size≤9223372036854775807) (v:Int×Int) (hn:n < maxLen):
  ∃w',(Instr.mapUpdate 135 (.map (some b)) (.string s) (thV v)).run Tryz.prog w= .ok () w'∧KnM w' b (n+1) (kn.put s.data.toList v)∧w.grownBy w' (some b):=by
 obtain⟨D,hown,hD⟩:=h
 obtain⟨w',hrun,hown',hg⟩:=hown.update strKey Tryz.underlying135 hn (keyB' hs) (val:=thV v) (d:= .held (thV v)) (ps:= []) rfl
 refine⟨w',hrun,⟨_,hown',fun x=>?_⟩,hg⟩
 have kx:WideAt.IsKeyLit (.string s.data.toList):=strKey.key (keyB' hs)
 unfold Kn.put
 by_cases e:x=s.data.toList
 ·subst e
  simp only[if_true]
  refine⟨by rw[has_put_same hown.isMap kx];rfl,fun u hu z=>?_,fun hu=>by simp at hu⟩
  rw[atKey_put_same hown.isMap kx]
  simp at hu
  rw[hu]
 ·have e2:(Lit.string x)≠ .string s.data.toList:=fun h=>e (by simpa using h)
  simp only[if_neg e]
  refine⟨by rw[has_put_other e2,(hD x).1],fun u hu z=>?_,fun hu z=>?_⟩
  ·rw[atKey_put_other e2]
   exact(hD x).2.1 u hu z
  ·rw[atKey_put_other e2]
   exact(hD x).2.2 hu z
theorem zeroThing (w:World):(zeroValue 140).run Tryz.prog w= .ok (.agg #[.int .u8 0,.int .i64 0]) w:=by kernel_rfl
theorem KnM.look {w:World} {b n:Nat} {kn:Kn} (h:KnM w b n kn) {s:ByteArray} (hs:s.size≤9223372036854775807):
  (Instr.lookup 135 (.map (some b)) (.string s) true).run Tryz.prog w= .ok (.tuple #[thV ((kn s.data.toList).getD (0,0)),.bool (kn s.data.toList).isSome]) w:=by
 obtain⟨D,hown,hD⟩:=h
 obtain⟨v,ps,hrun,hv⟩:=hown.look_ok strKey Tryz.underlying135 (zeroThing w) (zd:= .held _) (zp:= []) rfl (keyB' hs)
 rw[(hD s.data.toList).1]at hrun
 rw[hrun]
 cases hl:kn s.data.toList with
 |none=>
  rw[(hD s.data.toList).2.2 hl]at hv
  simp only[heldB,Option.some.injEq,Prod.mk.injEq,DataW.held.injEq]at hv
  rw[hv.1]
  rfl
 |some u=>
  rw[(hD s.data.toList).2.1 u hl]at hv
  simp only[heldB,Option.some.injEq,Prod.mk.injEq,DataW.held.injEq]at hv
  rw[hv.1]
  rfl
theorem KnM.drop {w:World} {b n:Nat} {kn:Kn} (h:KnM w b n kn) {s:ByteArray} (hs:s.size≤9223372036854775807) (ty:TypeId):
  ∃w',(Builtin.delete_ #[135,9] ty #[.map (some b),.string s]).run Tryz.prog w= .ok (.tuple #[]) w'∧KnM w' b n (kn.del s.data.toList)∧w.grownBy w' (some b):=by
 obtain⟨D,hown,hD⟩:=h
 obtain⟨w',hrun,hown',hg⟩:=hown.drop strKey Tryz.underlying135 (keyB' hs) ty
 refine⟨w',hrun,⟨_,hown',fun x=>?_⟩,hg.grown⟩
 unfold Kn.del
 by_cases e:x=s.data.toList
 ·subst e
  simp only[if_true]
  exact⟨has_del_same,fun u hu=>by simp at hu,fun _ z=>atKey_del_same z⟩
 ·have e2:(Lit.string x)≠ .string s.data.toList:=fun h=>e (by simpa using h)
  simp only[if_neg e]
  refine⟨by rw[has_del_other e2,(hD x).1],fun u hu z=>?_,fun hu z=>?_⟩
  ·rw[atKey_del_other e2]
   exact(hD x).2.1 u hu z
  ·rw[atKey_del_other e2]
   exact(hD x).2.2 hu z

structure CkAt (w:World) (P b n:Nat) (kn:Kn) (st:Int×Int):Prop where
 box:Bk w P 137 #[.map (some b),.int .i64 st.1,.int .i64 st.2]
 map:KnM w b n kn
 ne:P≠b
def CkT (P b:Nat):Nat→Prop:=fun x=>x=P∨x=b
theorem KnM.fr {w w':World} {b n:Nat} {kn:Kn} {T:Nat→Prop} (h:KnM w b n kn) (hf:Fr T w w') (ht:¬T b):KnM w' b n kn:=by
 obtain⟨D,⟨es,clock,hb,F,hs,hd⟩,hD⟩:=h
 exact⟨D,⟨es,clock,(hf.block b (Array.getElem?_eq_some_iff.1 hb).1 ht).trans hb,F,hs,hd⟩,hD⟩
theorem CkAt.fr {w w':World} {P b n:Nat} {kn:Kn} {st:Int×Int} {T:Nat→Prop} (h:CkAt w P b n kn st) (hf:Fr T w w') (h1:¬T P) (h2:¬T b):CkAt w' P b n kn st:=
 ⟨h.box.fr hf h1,h.map.fr hf h2,h.ne⟩
theorem CkAt.fr0 {w w':World} {P b n:Nat} {kn:Kn} {st:Int×Int} (h:CkAt w P b n kn st) (hf:Fr NoT w w'):CkAt w' P b n kn st:=h.fr hf id id
def failC (st p:Int×Int):Int×Int:=if st.2=0 then p else st
def askC (st:Int×Int) (is:Bool) (p:Int×Int):Int×Int:=if is then st else failC st p
def CkPost (P b n:Nat) (kn:Kn) (st:Int×Int) (W:World) (e:Ending) (w':World):Prop:=e= .returned (.tuple #[])∧CkAt w' P b n kn st∧Fr (CkT P b) W w'
theorem cfail_any (P b n:Nat) (kn:Kn) (st:Int×Int) (at_ er:Int) (w:World) (h:CkAt w P b n kn st):
  Calls Tryz.prog 99 #[.pointer (some ⟨P,0,none⟩),.int .i64 at_,.int .i64 er] w (CkPost P b n kn (failC st (at_,er)) w):=by
 obtain⟨a,e⟩:=st
 have hb:=h.box
 have c0:=hb.cell 0
 have c1:=hb.cell 1
 have c2:=hb.cell 2
 have f1:=hb.frozen 1
 have f2:=hb.frozen 2
 have hl:=hb.lt
 simp only[getsL]at c0 c1 c2
 have H:=hdq h
 clear h hb
 by_cases he:e=0
 ·subst he
  go_enter Tryz.func99,Tryz.ntmps99
  go_wp2_with fail
  go_end0
  refine⟨rfl,⟨?_,?_,H.out.ne⟩,?_⟩
  ·have:=(H.out.box.set_ 1 (.int .i64 at_)).set_ 2 (.int .i64 er)
   simpa[failC]using this
  ·exact H.out.map.fr (T:=fun x=>x=P) (Fr.own (Fr.own (Fr.refl _ _) _ _) _ _) (fun e=>H.out.ne e.symm)
  ·exact(Fr.own (Fr.own (Fr.refl _ _) _ _) _ _).mono fun i _ h=> .inl h
 ·have e1:(e==0)=false:=by simpa using he
  have hf:failC (a,e) (at_,er)=(a,e):=by unfold failC;rw[if_neg he]
  rw[hf]
  clear he hf
  go_enter Tryz.func99,Tryz.ntmps99
  go_wp2_with fail
  go_end0
  exact⟨rfl,H.out,Fr.refl _ _⟩
theorem cask_any (P b n:Nat) (kn:Kn) (st:Int×Int) (is:Bool) (at_ er:Int) (w:World) (h:CkAt w P b n kn st):
  Calls Tryz.prog 49 #[.pointer (some ⟨P,0,none⟩),.bool is,.int .i64 at_,.int .i64 er] w (CkPost P b n kn (askC st is (at_,er)) w):=by
 have HC:=hdq (cfail_any P b n kn st at_ er w h)
 have H:=hdq h
 clear h
 cases is
 ·go_enter Tryz.func49,Tryz.ntmps49
  go_wp2_with fail
  refine HC.out.mono ?_
  rintro _ w1 ⟨rfl,h1,h2⟩
  have HH:=hdq (aiq h1 h2)
  clear h1 h2
  go_wp2_with fail
  go_end0
  exact⟨rfl,HH.out⟩
 ·go_enter Tryz.func49,Tryz.ntmps49
  go_wp2_with fail
  go_end0
  exact⟨rfl,H.out,Fr.refl _ _⟩

def useC (kn:Kn) (st:Int×Int) (t:List UInt8) (k at_:Int):Int×Int:=askC (askC st ((kn t).isSome &&((kn t).getD (0,0)).1 != 4) (at_,110)) (((kn t).getD (0,0)).1 ==k) (at_,112)
theorem cuse_any (P b n:Nat) (kn:Kn) (st:Int×Int) (s:ByteArray) (k at_:Int) (w:World) (h:CkAt w P b n kn st) (hs:s.size≤9223372036854775807):
  Calls Tryz.prog 102 #[.pointer (some ⟨P,0,none⟩),.string s,.int .u8 k,.int .i64 at_] w fun e w'=>
   e= .returned (thV ((kn s.data.toList).getD (0,0)))∧CkAt w' P b n kn (useC kn st s.data.toList k at_)∧Fr (CkT P b) w w':=by
 obtain⟨⟨x1,x2⟩,hx⟩:=nmq ((kn s.data.toList).getD (0,0))
 obtain⟨q,hq⟩:=nmq ((kn s.data.toList).isSome )
 unfold useC
 rw[←hx,←hq]
 simp only
 have hf1:Fr NoT w (w.alloc (.cells #[.int .u8 0,.int .i64 0] 140)):=(Fr.refl _ _).alloc _
 have hlk:=(h.map.fr hf1 id).look hs
 rw[←hx,←hq]at hlk
 unfold thV at hlk ⊢
 simp only at hlk ⊢
 obtain⟨w2,hw2⟩:=nmq ((w.alloc (.cells #[.int .u8 0,.int .i64 0] 140)).alloc (.cells #[.int .u8 x1,.int .i64 x2] 140))
 have hf2:Fr NoT w w2:=by rw[hw2];exact hf1.alloc _
 have hb0:=h.box
 have c0:=hb0.cell 0
 have hl:=hb0.lt
 simp only[getsL]at c0
 have hbl:=h.map.lt
 have hr2:Bk w2 w.heap.size 140 #[.int .u8 0,.int .i64 0]:=by rw[hw2];exact(Bk.new _ _ _).alloc _
 have ht2:Bk w2 (w.heap.size+1) 140 #[.int .u8 x1,.int .i64 x2]:=by rw[hw2];exact Bk.new_at _ _ _ (by simp)
 obtain⟨p4,hp4⟩:=nmq ((x1 != 4))
 obtain⟨p5,hp5⟩:=nmq ((x1==k))
 rw[←hp4,←hp5]
 have e4:=hp4.symm
 have e5:=hp5.symm
 have H1:=hdq (fun is=>cask_any P b n kn st is at_ 110 w2 (h.fr0 hf2))
 have HF2:=hdq hf2
 have HR2:=hdq hr2
 have HT2:=hdq ht2
 have HW2:=hdq hw2
 have hnT:¬CkT P b w.heap.size:=fun e=>by rcases e with e|e<;>omega
 have hnT1:¬CkT P b (w.heap.size+1):=fun e=>by rcases e with e|e<;>omega
 have HNT:=hdq (aiq hnT hnT1)
 clear hx hq h hf1 hf2 hw2 hr2 ht2 hb0 hp4 hp5 hnT hnT1
 cases q
 all_goals
  go_enter Tryz.func102,Tryz.ntmps102
  go_wp2_with fail
  rw[←HW2.out]
  refine(H1.out _).mono ?_
  rintro _ w3 ⟨rfl,h3,hf3⟩
  have ht3:=HT2.out.fr hf3 HNT.out.2
  have d0:=ht3.cell 0
  have hl3:=ht3.lt
  simp only[getsL]at d0
  have H3:=hdq (cask_any P b n kn _ p5 at_ 112 w3 h3)
  have HT3:=hdq ht3
  have HR3:=hdq (HR2.out.fr hf3 HNT.out.1)
  have HF3:=hdq ((HF2.out.mono fun _ _ h=>h.elim:Fr (CkT P b) w w2).trans hf3)
  clear h3 hf3 ht3
  go_wp2_with fail
  refine H3.out.mono ?_
  rintro _ w4 ⟨rfl,h4,hf4⟩
  have ht4:=HT3.out.fr hf4 HNT.out.2
  have hr4:=HR3.out.fr hf4 HNT.out.1
  have a0:=ht4.cell 0
  have a1:=ht4.cell 1
  have hl4:=ht4.lt
  have b0:=hr4.cell 0
  have b1:=hr4.cell 1
  have f0:=hr4.frozen 0
  have f1:=hr4.frozen 1
  have hl5:=hr4.lt
  simp only[getsL]at a0 a1 b0 b1
  have H4:=hdq h4
  have HF4:=hdq (HF3.out.trans hf4)
  have hr5:=(hr4.set_ 0 (.int .u8 x1)).set_ 1 (.int .i64 x2)
  have r0:=hr5.cell 0
  have r1:=hr5.cell 1
  have hl6:=hr5.lt
  simp only[List.getElem?_toArray,List.getElem?_cons_succ,List.getElem?_cons_zero,List.setIfInBounds_toArray,List.set_cons_zero,List.set_cons_succ]at r0 r1
  clear h4 hf4 ht4 hr4 hr5
  go_wp2_with fail
  refine bodyPost_ret (v:= .agg #[.int .u8 x1,.int .i64 x2]) (by simp[results,Tryz.results102,go_sem,r0,r1,hl6]) rfl ⟨rfl,?_,?_⟩
  ·exact H4.out.fr (T:=fun x=>x=w.heap.size) (Fr.own (Fr.own (Fr.refl _ _) _ _) _ _) (fun e=>HNT.out.1 (.inl e.symm)) (fun e=>HNT.out.1 (.inr e.symm))
  ·exact(HF4.out.high (lrq _) 0 _).high (lrq _) 1 _

def CkN (w:World) (P b N:Nat) (kn:Kn) (st:Int×Int):Prop:=∃n,n≤N∧CkAt w P b n kn st
def declK (kn:Kn) (t:List UInt8) (v:Int×Int):Kn:=if(kn t).isSome then kn else kn.put t v
def declE (kn:Kn) (st:Int×Int) (t:List UInt8) (at_:Int):Int×Int:=askC st (!(kn t).isSome) (at_,111)
theorem cdeclare_any (P b N:Nat) (kn:Kn) (st:Int×Int) (s:ByteArray) (at_:Int) (v:Int×Int) (w:World) (h:CkN w P b N kn st) (hs:s.size≤9223372036854775807) (hN:N < maxLen):
  Calls Tryz.prog 48 #[.pointer (some ⟨P,0,none⟩),.string s,.int .i64 at_,thV v] w fun e w'=>
   e= .returned (.tuple #[])∧CkN w' P b (N+1) (declK kn s.data.toList v) (declE kn st s.data.toList at_)∧Fr (CkT P b) w w':=by
 obtain⟨n,hn,h⟩:=h
 obtain⟨v1,v2⟩:=v
 obtain⟨⟨x1,x2⟩,hx⟩:=nmq ((kn s.data.toList).getD (0,0))
 obtain⟨q,hq⟩:=nmq ((kn s.data.toList).isSome )
 unfold declE declK
 rw[←hq]
 obtain⟨w1,hw1⟩:=nmq (w.alloc (.cells #[.int .u8 v1,.int .i64 v2] 140))
 have hf1:Fr NoT w w1:=by rw[hw1];exact(Fr.refl _ _).alloc _
 have hlk:=(h.map.fr hf1 id).look hs
 rw[←hx,←hq,hw1]at hlk
 unfold thV at hlk ⊢
 simp only at hlk ⊢
 obtain⟨w2,hw2⟩:=nmq ((w.alloc (.cells #[.int .u8 v1,.int .i64 v2] 140)).alloc (.cells #[.int .u8 x1,.int .i64 x2] 140))
 have hf2:Fr NoT w w2:=by rw[hw2];exact((Fr.refl _ _).alloc _).alloc _
 have hb0:=h.box
 have c0:=hb0.cell 0
 have hl:=hb0.lt
 simp only[getsL]at c0
 have hbl:=h.map.lt
 have hv2:Bk w2 w.heap.size 140 #[.int .u8 v1,.int .i64 v2]:=by rw[hw2];exact(Bk.new _ _ _).alloc _
 have H1:=hdq (fun is=>cask_any P b n kn st is at_ 111 w2 (h.fr0 hf2))
 have HF2:=hdq hf2
 have HV2:=hdq hv2
 have HW2:=hdq hw2
 have hnT:¬CkT P b w.heap.size:=fun e=>by rcases e with e|e<;>omega
 have HNT:=hdq hnT
 have HN:=hdq (aiq hn hN)
 have HS:=hdq hs
 clear hx hq h hf1 hf2 hw1 hw2 hv2 hb0 hnT hn hN
 cases q
 all_goals
  go_enter Tryz.func48,Tryz.ntmps48
  go_wp2_with fail
  rw[←HW2.out]
  refine(H1.out _).mono ?_
  rintro _ w3 ⟨rfl,h3,hf3⟩
  have hv3:=HV2.out.fr hf3 HNT.out
  have d0:=hv3.cell 0
  have d1:=hv3.cell 1
  have hl3:=hv3.lt
  have hb3:=h3.box
  have p0:=hb3.cell 0
  have hlp:=hb3.lt
  simp only[getsL]at d0 d1 p0
  obtain⟨w4,hput,h4,hg4⟩:=(h3.map.fr ((Fr.refl NoT w3).drew) id).put HS.out (v1,v2) (by have:=HN.out;omega)
  have H3:=hdq h3
  have H4:=hdq h4
  have HG4:=hdq hg4
  have HF3:=hdq ((HF2.out.mono fun _ _ h=>h.elim:Fr (CkT P b) w w2).trans hf3)
  unfold thV at hput
  simp only at hput
  clear h3 hf3 hv3 hb3 h4 hg4
 ·go_wp2_with fail
  refine wp_region_still_tail 6 (by kernel_rfl) (by kernel_rfl) ?_
  simp only[List.take_succ_cons,List.take_zero,List.drop_succ_cons,List.drop_zero]
  repeat still_step
  try refine wpStill_nil ?_
  go_wp2_with fail
  go_end0
  have hf4:Fr (CkT P b) w3 w4:=((Fr.refl _ _).drew).trans (Fr.grown HG4.out fun g e _=> .inr (Option.some.inj e).symm)
  have hb4:=H3.out.box.fr (((Fr.refl (fun x=>x=b) w3).drew).trans (Fr.grown HG4.out fun g e _=>(Option.some.inj e).symm)) H3.out.ne
  exact⟨rfl,⟨n+1,by have:=HN.out;omega,hb4,H4.out,H3.out.ne⟩,HF3.out.trans hf4⟩
 ·go_wp2_with fail
  go_end0
  exact⟨rfl,⟨n,by have:=HN.out;omega,H3.out⟩,HF3.out⟩

def CkP (P b N:Nat) (kn:Kn) (st:Int×Int) (W:World) (e:Ending) (w':World):Prop:=e= .returned (.tuple #[])∧CkN w' P b N kn st∧Fr (CkT P b) W w'
theorem CkN.fr0 {w w':World} {P b N:Nat} {kn:Kn} {st:Int×Int} (h:CkN w P b N kn st) (hf:Fr NoT w w'):CkN w' P b N kn st:=by
 obtain⟨n,hn,h⟩:=h
 exact⟨n,hn,h.fr0 hf⟩
theorem CkN.lt {w:World} {P b N:Nat} {kn:Kn} {st:Int×Int} (h:CkN w P b N kn st):P < w.heap.size∧b < w.heap.size:=by
 obtain⟨n,hn,h⟩:=h
 exact⟨h.box.lt,h.map.lt⟩
theorem cuseN_any (P b N:Nat) (kn:Kn) (st:Int×Int) (s:ByteArray) (k at_:Int) (w:World) (h:CkN w P b N kn st) (hs:s.size≤9223372036854775807):
  Calls Tryz.prog 102 #[.pointer (some ⟨P,0,none⟩),.string s,.int .u8 k,.int .i64 at_] w fun e w'=>
   e= .returned (thV ((kn s.data.toList).getD (0,0)))∧CkN w' P b N kn (useC kn st s.data.toList k at_)∧Fr (CkT P b) w w':=by
 obtain⟨n,hn,h⟩:=h
 exact(cuse_any P b n kn st s k at_ w h hs).mono fun _ _ ⟨h1,h2,h3⟩=>⟨h1,⟨n,hn,h2⟩,h3⟩
theorem caskN_any (P b N:Nat) (kn:Kn) (st:Int×Int) (is:Bool) (at_ er:Int) (w:World) (h:CkN w P b N kn st):
  Calls Tryz.prog 49 #[.pointer (some ⟨P,0,none⟩),.bool is,.int .i64 at_,.int .i64 er] w (CkP P b N kn (askC st is (at_,er)) w):=by
 obtain⟨n,hn,h⟩:=h
 exact(cask_any P b n kn st is at_ er w h).mono fun _ _ ⟨h1,h2,h3⟩=>⟨h1,⟨n,hn,h2⟩,h3⟩

def exprsC (kn:Kn):Exs→Int×Int→Int×Int
 | .nil,st=>st
 | .cons k nm _ args at_ r,st=>exprsC kn r (exprsC kn args (if k=2 then useC kn st nm.data.toList 1 at_ else if k=3 then useC kn st nm.data.toList 2 at_ else st))
theorem exprsC_step {kn:Kn} {xs:Exs} {i:Nat} {st:Int×Int} {k nm n args at_ r} (hd:Exs.drop i xs= .cons k nm n args at_ r):
  exprsC kn (Exs.drop i xs) st=exprsC kn (Exs.drop (i+1) xs) (exprsC kn args (if k=2 then useC kn st nm.data.toList 1 at_ else if k=3 then useC kn st nm.data.toList 2 at_ else st)):=by
 rw[Exs.drop_succ i xs hd,hd];rfl
def CX (kn:Kn) (xs:Exs):Prop:=∀(P b N:Nat) (st:Int×Int) (W:World) (S:Nat→Prop) (Z:Prop) (A:Option Addr) (c:Nat),CkN W P b N kn st→(∀x,S x→x < W.heap.size∧¬CkT P b x)→SlR (fun b o=>ExR W S Z xs b o) xs.len 64 A c→
 Calls Tryz.prog 103 #[.pointer (some ⟨P,0,none⟩),.slice A xs.len c] W (CkP P b N kn (exprsC kn xs st) W)
def CXI (kn:Kn) (xs:Exs):Prop:=∀(i:Nat) (a0:Int) (a1:ByteArray) (a2:Int) (a3:Exs) (a4:Int) (ar:Exs),Exs.drop i xs= .cons a0 a1 a2 a3 a4 ar→a1.size≤9223372036854775807∧CX kn a3
theorem cx_one (kn:Kn) (xs:Exs) (hall0:CXI kn xs):CX kn xs:=by
 intro P b N st w S Z A c hc hS hx
 have hl:xs.len≤9223372036854775807:=leq9 hx.1 hx.2.1.1
 have HA:=hdq hall0
 have HX:=hdq hx
 have HS:=hdq hS
 have HC:=hdq hc
 obtain⟨m,hm⟩:=nmq xs.len
 rw[←hm]at hl ⊢
 have HM:=hdq hm
 obtain⟨F,hF⟩:=nmq (exprsC kn xs st)
 rw[←hF]
 have HF:=hdq hF
 clear hall0 hx hS hm hc hF
 go_enter Tryz.func103,Tryz.ntmps103
 go_wp2_with fail
 go_loopw [8] (fun i wr=>∃(k:Nat) (s:Int×Int),k≤m∧i= .int .i64 k∧Hid (Fr (CkT P b) w wr)∧Hid (CkN wr P b N kn s)∧Hid (F=exprsC kn (Exs.drop k xs) s)) (fun i _=>m - (intOf i).toNat)
 case atStart=>exact⟨0,st,Nat.zero_le _,rfl,Fr.refl _ _,HC.out,HF.out⟩
 case round=>
  obtain⟨k,s,hk,rfl,hb,hcn,hall⟩:=hrel
  by_cases hlt:k < m
  ·obtain⟨a0,a1,a2,a3,a4,ar,hd⟩:=Exs.drop_cons (show k < xs.len from by rw[←HM.out];exact hlt)
   obtain⟨B,o,rfl,hat⟩:=HX.out.2.2 (by rw[←HM.out];omega)
   have hat1:=(ExR.keep (hb.out.same fun b hb=>HS.out b hb) hat).drop k
   rw[hd]at hat1
   obtain⟨⟨hbS,_,r0,r1,r2,c0,c1,c2,c4⟩,⟨A3,q3,c3,s3⟩,_⟩:=hat1
   have hxr:B < wr.heap.size:=ltq (HS.out _ hbS).1 hb.out.size
   have hlt':(k:Int) < (m:Int):=by omega
   have hge:(0:Int)≤(k:Int):=by omega
   obtain⟨hsz,hrec⟩:=HA.out k a0 a1 a2 a3 a4 ar hd
   obtain⟨w2,hw2⟩:=nmq (wr.alloc (.cells #[.int .u8 a0,.string a1,.int .i64 a2,.slice A3 a3.len q3,.int .i64 a4] 175))
   have hf2:Fr NoT wr w2:=by rw[hw2];exact(Fr.refl _ _).alloc _
   have hk2:Bk w2 wr.heap.size 175 #[.int .u8 a0,.string a1,.int .i64 a2,.slice A3 a3.len q3,.int .i64 a4]:=by rw[hw2];exact Bk.new _ _ _
   have HU:=hdq (fun kk=>cuseN_any P b N kn s a1 kk a4 w2 (hcn.out.fr0 hf2) hsz)
   have HREC:=hdq (fun(st':Int×Int) (W:World) (hW:CkN W P b N kn st') (h:Fr (CkT P b) wr W)=>hrec P b N st' W S Z A3 q3 hW (fun x hx=>⟨ltq (HS.out x hx).1 (hb.out.trans h).size,(HS.out x hx).2⟩) (s3.imp fun _ _ hx=>ExR.keep (h.same fun x hx=>⟨ltq (HS.out x hx).1 hb.out.size,(HS.out x hx).2⟩) hx))
   have hlt2:=hcn.out.lt
   have hnT:¬CkT P b wr.heap.size:=fun e=>by rcases e with e|e<;>omega
   have HST:=hdq (hall.out.trans (exprsC_step hd))
   have HB:=hdq hb.out
   have HCN:=hdq hcn.out
   have HW2:=hdq hw2
   have HK2:=hdq hk2
   have HF2:=hdq hf2
   have HNT:=hdq hnT
   clear hd hat hall hb hbS s3 r0 r1 r2 hcn hsz hrec hw2 hf2 hk2 hlt2 hnT
   by_cases h2:a0=2∨a0=3
   ·rcases h2 with rfl|rfl
    all_goals
     go_wp2_with fail
     rw[←HW2.out]
     refine(HU.out _).mono ?_
     rintro _ w3 ⟨rfl,h3,hf3⟩
     have hk3:=HK2.out.fr hf3 HNT.out
     have d3:=hk3.cell 3
     have hl3:=hk3.lt
     simp only[getsL]at d3
     have HF3:=hdq ((HF2.out.any:Fr (CkT P b) wr w2).trans hf3)
     have HR:=hdq (HREC.out _ w3 h3 HF3.out)
     clear h3 hf3 hk3 c0 c1 c2 c3 c4
     go_wp2_with fail
     refine HR.out.mono ?_
     rintro _ w4 ⟨rfl,h4,hf4⟩
     have HN:=hdq (aiq h4 ((HB.out.trans HF3.out).trans hf4))
     clear h4 hf4 d3
     go_wp2_with fail
     go_roundw
     case rel=>exact⟨k+1,_,by omega,by go_num,HN.out.2,HN.out.1,HST.out⟩
     case measure=>simp[intOf];omega
   ·have h2a:a0≠2:=fun e=>h2 (.inl e)
    have h2b:a0≠3:=fun e=>h2 (.inr e)
    have e2:(a0==2)=false:=by simpa using h2a
    have e3:(a0==3)=false:=by simpa using h2b
    have HST2:=hdq (show F=exprsC kn (Exs.drop (k+1) xs) (exprsC kn a3 s)from by rw[HST.out,if_neg h2a,if_neg h2b])
    have HR:=hdq (HREC.out _ w2 (HCN.out.fr0 HF2.out) HF2.out.any)
    clear h2 h2a h2b
    go_wp2_with fail
    rw[←HW2.out]
    refine HR.out.mono ?_
    rintro _ w4 ⟨rfl,h4,hf4⟩
    have HN:=hdq (aiq h4 ((HB.out.trans (HF2.out.any:Fr (CkT P b) wr w2)).trans hf4))
    clear h4 hf4 c0 c1 c2 c3 c4
    go_wp2_with fail
    go_roundw
    case rel=>exact⟨k+1,_,by omega,by go_num,HN.out.2,HN.out.1,HST2.out⟩
    case measure=>simp[intOf];omega
  ·have HE:=hdq (show F=s from by rw[hall.out,Exs.drop_nil (by rw[←HM.out];omega)];rfl)
   have HB:=hdq hb.out
   have HCN:=hdq hcn.out
   clear hall hb hcn
   go_wp2_with fail
   go_end0
   exact⟨rfl,HE.out▸HCN.out,HB.out⟩
theorem cxi_all (kn:Kn):∀xs:Exs,szX xs→CXI kn xs
 | .nil,_=>fun i _ _ _ _ _ _ hd=>by cases i<;>simp[Exs.drop]at hd
 | .cons k0 k1 k2 k3 k4 kr,hsz=>fun i _ _ _ _ _ _ hd=>by
  cases i with
  |zero=>
   simp only[Exs.drop]at hd
   injection hd with e0 e1 e2 e3 e4 e5
   subst e0 e1 e2 e3 e4 e5
   exact⟨hsz.1,cx_one kn k3 (cxi_all kn k3 hsz.2.1)⟩
  |succ i=>
   simp only[Exs.drop]at hd
   exact cxi_all kn kr hsz.2.2 i _ _ _ _ _ _ hd
theorem cexprs_any (kn:Kn) (xs:Exs) (hsz:szX xs):CX kn xs:=cx_one kn xs (cxi_all kn xs hsz)

def condsC (kn:Kn):Cds→Int×Int→Int×Int
 | .nil,st=>st
 | .cons _ args of_ _ r,st=>condsC kn r (condsC kn of_ (exprsC kn args st))
theorem condsC_step {kn:Kn} {xs:Cds} {i:Nat} {st:Int×Int} {k args of_ at_ r} (hd:Cds.drop i xs= .cons k args of_ at_ r):
  condsC kn (Cds.drop i xs) st=condsC kn (Cds.drop (i+1) xs) (condsC kn of_ (exprsC kn args st)):=by
 rw[Cds.drop_succ i xs hd,hd];rfl
def CC (kn:Kn) (xs:Cds):Prop:=∀(P b N:Nat) (st:Int×Int) (W:World) (S:Nat→Prop) (Z:Prop) (A:Option Addr) (c:Nat),CkN W P b N kn st→(∀x,S x→x < W.heap.size∧¬CkT P b x)→SlR (fun b o=>CdR W S Z xs b o) xs.len 64 A c→
 Calls Tryz.prog 104 #[.pointer (some ⟨P,0,none⟩),.slice A xs.len c] W (CkP P b N kn (condsC kn xs st) W)
def CCI (kn:Kn) (xs:Cds):Prop:=∀(i:Nat) (a0:Int) (a1:Exs) (a2:Cds) (a3:Int) (ar:Cds),Cds.drop i xs= .cons a0 a1 a2 a3 ar→CX kn a1∧CC kn a2
theorem cc_one (kn:Kn) (xs:Cds) (hall0:CCI kn xs):CC kn xs:=by
 intro P b N st w S Z A c hc hS hx
 have hl:xs.len≤9223372036854775807:=leq9 hx.1 hx.2.1.1
 have HA:=hdq hall0
 have HX:=hdq hx
 have HS:=hdq hS
 have HC:=hdq hc
 obtain⟨m,hm⟩:=nmq xs.len
 rw[←hm]at hl ⊢
 have HM:=hdq hm
 obtain⟨F,hF⟩:=nmq (condsC kn xs st)
 rw[←hF]
 have HF:=hdq hF
 clear hall0 hx hS hm hc hF
 go_enter Tryz.func104,Tryz.ntmps104
 go_wp2_with fail
 go_loopw [8] (fun i wr=>∃(k:Nat) (s:Int×Int),k≤m∧i= .int .i64 k∧Hid (Fr (CkT P b) w wr)∧Hid (CkN wr P b N kn s)∧Hid (F=condsC kn (Cds.drop k xs) s)) (fun i _=>m - (intOf i).toNat)
 case atStart=>exact⟨0,st,Nat.zero_le _,rfl,Fr.refl _ _,HC.out,HF.out⟩
 case round=>
  obtain⟨k,s,hk,rfl,hb,hcn,hall⟩:=hrel
  by_cases hlt:k < m
  ·obtain⟨a0,a1,a2,a3,ar,hd⟩:=Cds.drop_cons (show k < xs.len from by rw[←HM.out];exact hlt)
   obtain⟨B,o,rfl,hat⟩:=HX.out.2.2 (by rw[←HM.out];omega)
   have hat1:=(CdR.keep (hb.out.same fun b hb=>HS.out b hb) hat).drop k
   rw[hd]at hat1
   obtain⟨⟨hbS,_,r0,r1,c0,c3⟩,⟨A1,q1,c1,s1⟩,⟨A2,q2,c2,s2⟩,_⟩:=hat1
   have hxr:B < wr.heap.size:=ltq (HS.out _ hbS).1 hb.out.size
   have hlt':(k:Int) < (m:Int):=by omega
   have hge:(0:Int)≤(k:Int):=by omega
   obtain⟨hrec1,hrec2⟩:=HA.out k a0 a1 a2 a3 ar hd
   obtain⟨w2,hw2⟩:=nmq (wr.alloc (.cells #[.int .u8 a0,.slice A1 a1.len q1,.slice A2 a2.len q2,.int .i64 a3] 179))
   have hf2:Fr NoT wr w2:=by rw[hw2];exact(Fr.refl _ _).alloc _
   have hk2:Bk w2 wr.heap.size 179 #[.int .u8 a0,.slice A1 a1.len q1,.slice A2 a2.len q2,.int .i64 a3]:=by rw[hw2];exact Bk.new _ _ _
   have hSS:∀W,Fr (CkT P b) wr W→∀x,S x→x < W.heap.size∧¬CkT P b x:=fun W h x hx=>⟨ltq (HS.out x hx).1 (hb.out.trans h).size,(HS.out x hx).2⟩
   have hSM:∀W,Fr (CkT P b) wr W→SameS S wr W:=fun W h=>h.same fun x hx=>⟨ltq (HS.out x hx).1 hb.out.size,(HS.out x hx).2⟩
   have HR1:=hdq (hrec1 P b N s w2 S Z A1 q1 (hcn.out.fr0 hf2) (hSS w2 hf2.any) (s1.imp fun _ _ hx=>ExR.keep (hSM w2 hf2.any) hx))
   have HREC:=hdq (fun(st':Int×Int) (W:World) (hW:CkN W P b N kn st') (h:Fr (CkT P b) wr W)=>hrec2 P b N st' W S Z A2 q2 hW (hSS W h) (s2.imp fun _ _ hx=>CdR.keep (hSM W h) hx))
   have hlt2:=hcn.out.lt
   have hnT:¬CkT P b wr.heap.size:=fun e=>by rcases e with e|e<;>omega
   have HST:=hdq (hall.out.trans (condsC_step hd))
   have HB:=hdq hb.out
   have HW2:=hdq hw2
   have HK2:=hdq hk2
   have HF2:=hdq hf2
   have HNT:=hdq hnT
   clear hd hat hall hb hbS s1 s2 r0 r1 hcn hrec1 hrec2 hw2 hf2 hk2 hlt2 hnT hSS hSM
   go_wp2_with fail
   rw[←HW2.out]
   refine HR1.out.mono ?_
   rintro _ w3 ⟨rfl,h3,hf3⟩
   have hk3:=HK2.out.fr hf3 HNT.out
   have d3:=hk3.cell 2
   have hl3:=hk3.lt
   simp only[getsL]at d3
   have HF3:=hdq ((HF2.out.any:Fr (CkT P b) wr w2).trans hf3)
   have HR:=hdq (HREC.out _ w3 h3 HF3.out)
   clear h3 hf3 hk3 c0 c1 c2 c3
   go_wp2_with fail
   refine HR.out.mono ?_
   rintro _ w4 ⟨rfl,h4,hf4⟩
   have HN:=hdq (aiq h4 ((HB.out.trans HF3.out).trans hf4))
   clear h4 hf4 d3
   go_wp2_with fail
   go_roundw
   case rel=>exact⟨k+1,_,by omega,by go_num,HN.out.2,HN.out.1,HST.out⟩
   case measure=>simp[intOf];omega
  ·have HE:=hdq (show F=s from by rw[hall.out,Cds.drop_nil (by rw[←HM.out];omega)];rfl)
   have HB:=hdq hb.out
   have HCN:=hdq hcn.out
   clear hall hb hcn
   go_wp2_with fail
   go_end0
   exact⟨rfl,HE.out▸HCN.out,HB.out⟩
theorem cci_all (kn:Kn):∀xs:Cds,szC xs→CCI kn xs
 | .nil,_=>fun i _ _ _ _ _ hd=>by cases i<;>simp[Cds.drop]at hd
 | .cons k0 k1 k2 k3 kr,hsz=>fun i _ _ _ _ _ hd=>by
  cases i with
  |zero=>
   simp only[Cds.drop]at hd
   injection hd with e0 e1 e2 e3 e4
   subst e0 e1 e2 e3 e4
   exact⟨cexprs_any kn k1 hsz.1,cc_one kn k2 (cci_all kn k2 hsz.2.1)⟩
  |succ i=>
   simp only[Cds.drop]at hd
   exact cci_all kn kr hsz.2.2 i _ _ _ _ _ hd
theorem cconds_any (kn:Kn) (xs:Cds) (hsz:szC xs):CC kn xs:=cc_one kn xs (cci_all kn xs hsz)

def headC (kn:Kn) (k:Int) (nm:List UInt8) (na:Int) (at_:Int) (st:Int×Int):Int×Int:=
 if k=2∨k=4 then useC kn st nm 1 at_ else if k=3 then useC kn st nm 2 at_ else if k=9 then askC (useC kn st nm 3 at_) (((kn nm).getD (0,0)).2 ==na) (at_,114)else st
def stmtsC (kn:Kn):Sts→Int×Int→Int×Int
 | .nil,st=>st
 | .cons k nm args cond body els at_ r,st=>stmtsC kn r (stmtsC kn els (stmtsC kn body (condsC kn cond (exprsC kn args (headC kn k nm.data.toList (args.len:Int) at_ st)))))
theorem stmtsC_step {kn:Kn} {xs:Sts} {i:Nat} {st:Int×Int} {k nm args cond body els at_ r} (hd:Sts.drop i xs= .cons k nm args cond body els at_ r):
  stmtsC kn (Sts.drop i xs) st=stmtsC kn (Sts.drop (i+1) xs) (stmtsC kn els (stmtsC kn body (condsC kn cond (exprsC kn args (headC kn k nm.data.toList (args.len:Int) at_ st))))):=by
 rw[Sts.drop_succ i xs hd,hd];rfl
structure WkAt (w:World) (P b B1 B2:Nat):Prop where
 p:Bk w B1 134 #[.pointer (some ⟨P,0,none⟩)]
 f:Bk w B2 145 #[.func (.func 101) #[] #[.pointer (some ⟨B1,0,none⟩),.pointer (some ⟨B2,0,none⟩)]]
 n1:¬CkT P b B1
 n2:¬CkT P b B2
theorem WkAt.fr {w w':World} {P b B1 B2:Nat} (h:WkAt w P b B1 B2) (hf:Fr (CkT P b) w w'):WkAt w' P b B1 B2:=⟨h.p.fr hf h.n1,h.f.fr hf h.n2,h.n1,h.n2⟩
def CS (kn:Kn) (xs:Sts):Prop:=∀(P b N B1 B2:Nat) (st:Int×Int) (W:World) (S:Nat→Prop) (Z:Prop) (A:Option Addr) (c:Nat),CkN W P b N kn st→WkAt W P b B1 B2→(∀x,S x→x < W.heap.size∧¬CkT P b x)→SlR (fun b o=>StR W S Z xs b o) xs.len 128 A c→
 Calls Tryz.prog 101 #[.slice A xs.len c,.pointer (some ⟨B1,0,none⟩),.pointer (some ⟨B2,0,none⟩)] W (CkP P b N kn (stmtsC kn xs st) W)
def CSI (kn:Kn) (xs:Sts):Prop:=∀(i:Nat) (a0:Int) (a1:ByteArray) (a2:Exs) (a3:Cds) (a4 a5:Sts) (a6:Int) (ar:Sts),Sts.drop i xs= .cons a0 a1 a2 a3 a4 a5 a6 ar→a1.size≤9223372036854775807∧CX kn a2∧CC kn a3∧CS kn a4∧CS kn a5
theorem cs_one (kn:Kn) (xs:Sts) (hall0:CSI kn xs):CS kn xs:=by
 intro P b N B1 B2 st w S Z A c hc hwk hS hx
 have hl:xs.len≤9223372036854775807:=leq9 hx.1 hx.2.1.1
 have hent:Enters Tryz.prog 101:=enters_of Tryz.func101 (by kernel_rfl) rfl
 have HA:=hdq hall0
 have HX:=hdq hx
 have HS:=hdq hS
 have HC:=hdq hc
 have HWK:=hdq hwk
 obtain⟨m,hm⟩:=nmq xs.len
 rw[←hm]at hl ⊢
 have HM:=hdq hm
 obtain⟨F,hF⟩:=nmq (stmtsC kn xs st)
 rw[←hF]
 have HF:=hdq hF
 clear hall0 hx hS hm hc hF hwk
 unfold Enters at hent
 go_enter Tryz.func101,Tryz.ntmps101
 go_wp2_with fail
 go_loopw [9] (fun i wr=>∃(k:Nat) (s:Int×Int),k≤m∧i= .int .i64 k∧Hid (Fr (CkT P b) w wr)∧Hid (CkN wr P b N kn s)∧Hid (F=stmtsC kn (Sts.drop k xs) s)) (fun i _=>m - (intOf i).toNat)
 case atStart=>exact⟨0,st,Nat.zero_le _,rfl,Fr.refl _ _,HC.out,HF.out⟩
 case round=>
  obtain⟨k,s,hk,rfl,hb,hcn,hall⟩:=hrel
  by_cases hlt:k < m
  ·obtain⟨a0,a1,a2,a3,a4,a5,a6,ar,hd⟩:=Sts.drop_cons (show k < xs.len from by rw[←HM.out];exact hlt)
   obtain⟨B,o,rfl,hat⟩:=HX.out.2.2 (by rw[←HM.out];omega)
   have hat1:=(StR.keep (hb.out.same fun b hb=>HS.out b hb) hat).drop k
   rw[hd]at hat1
   obtain⟨⟨hbS,_,r0,r1,c0,c1,c6⟩,⟨A2,q2,c2,s2⟩,⟨A3,q3,c3,s3⟩,⟨A4,q4,c4,s4⟩,⟨A5,q5,c5,s5⟩,_⟩:=hat1
   have hxr:B < wr.heap.size:=ltq (HS.out _ hbS).1 hb.out.size
   have hlt':(k:Int) < (m:Int):=by omega
   have hge:(0:Int)≤(k:Int):=by omega
   have hal:a2.len≤9223372036854775807:=leq9 s2.1 s2.2.1.1
   obtain⟨hsz,hrec1,hrec2,hrec3,hrec4⟩:=HA.out k a0 a1 a2 a3 a4 a5 a6 ar hd
   obtain⟨w2,hw2⟩:=nmq (wr.alloc (.cells #[.int .u8 a0,.string a1,.slice A2 a2.len q2,.slice A3 a3.len q3,.slice A4 a4.len q4,.slice A5 a5.len q5,.int .i64 a6] 51))
   have hf2:Fr NoT wr w2:=by rw[hw2];exact(Fr.refl _ _).alloc _
   have hk2:Bk w2 wr.heap.size 51 #[.int .u8 a0,.string a1,.slice A2 a2.len q2,.slice A3 a3.len q3,.slice A4 a4.len q4,.slice A5 a5.len q5,.int .i64 a6]:=by rw[hw2];exact Bk.new _ _ _
   have hSS:∀W,Fr (CkT P b) wr W→∀x,S x→x < W.heap.size∧¬CkT P b x:=fun W h x hx=>⟨ltq (HS.out x hx).1 (hb.out.trans h).size,(HS.out x hx).2⟩
   have hSM:∀W,Fr (CkT P b) wr W→SameS S wr W:=fun W h=>h.same fun x hx=>⟨ltq (HS.out x hx).1 hb.out.size,(HS.out x hx).2⟩
   have hwkr:=HWK.out.fr hb.out
   have HU:=hdq (fun kk=>cuseN_any P b N kn s a1 kk a6 w2 (hcn.out.fr0 hf2) hsz)
   have HR1:=hdq (fun(st':Int×Int) (W:World) (hW:CkN W P b N kn st') (h:Fr (CkT P b) wr W)=>hrec1 P b N st' W S Z A2 q2 hW (hSS W h) (s2.imp fun _ _ hx=>ExR.keep (hSM W h) hx))
   have HR2:=hdq (fun(st':Int×Int) (W:World) (hW:CkN W P b N kn st') (h:Fr (CkT P b) wr W)=>hrec2 P b N st' W S Z A3 q3 hW (hSS W h) (s3.imp fun _ _ hx=>CdR.keep (hSM W h) hx))
   have HR3:=hdq (fun(st':Int×Int) (W:World) (hW:CkN W P b N kn st') (h:Fr (CkT P b) wr W)=>hrec3 P b N B1 B2 st' W S Z A4 q4 hW (hwkr.fr h) (hSS W h) (s4.imp fun _ _ hx=>StR.keep (hSM W h) hx))
   have HR4:=hdq (fun(st':Int×Int) (W:World) (hW:CkN W P b N kn st') (h:Fr (CkT P b) wr W)=>hrec4 P b N B1 B2 st' W S Z A5 q5 hW (hwkr.fr h) (hSS W h) (s5.imp fun _ _ hx=>StR.keep (hSM W h) hx))
   have hlt2:=hcn.out.lt
   have hnT:¬CkT P b wr.heap.size:=fun e=>by rcases e with e|e<;>omega
   have HST:=hdq (hall.out.trans (stmtsC_step hd))
   have hg1:=hwkr.p.cell 0
   have hg2:=hwkr.p.lt
   simp only[getsL]at hg1
   have HWKR:=hdq hwkr
   have HB:=hdq hb.out
   have HCN:=hdq hcn.out
   have HW2:=hdq hw2
   have HK2:=hdq hk2
   have HF2:=hdq hf2
   have HNT:=hdq hnT
   clear hd hat hall hb hbS s2 s3 s4 s5 r0 r1 hcn hsz hrec1 hrec2 hrec3 hrec4 hw2 hf2 hk2 hlt2 hnT hSS hSM hwkr
   have hcase:(a0=2∨a0=4∨a0=3)∨a0=9∨(a0≠2∧a0≠4∧a0≠3∧a0≠9):=by omega
   rcases hcase with h2|rfl|⟨n2,n4,n3,n9⟩
   ·have HST2:∃kk,Hid (F=stmtsC kn (Sts.drop (k+1) xs) (stmtsC kn a5 (stmtsC kn a4 (condsC kn a3 (exprsC kn a2 (useC kn s a1.data.toList kk a6))))))∧kk=(if a0=3 then 2 else 1):=by
     rcases h2 with rfl|rfl|rfl
     all_goals exact⟨_,HST.out,rfl⟩
    obtain⟨kk,HST3,hkk⟩:=HST2
    clear HST
    rcases h2 with rfl|rfl|rfl
    all_goals
     simp at hkk
     subst hkk
     go_wp2_with fail
     rw[←HW2.out]
     refine(HU.out _).mono ?_
     rintro _ w3 ⟨rfl,h3,hf3⟩
     have HF3:=hdq ((HF2.out.any:Fr (CkT P b) wr w2).trans hf3)
     have hk3:=HK2.out.fr hf3 HNT.out
     have HR:=hdq (HR1.out _ w3 h3 HF3.out)
     have d2:=hk3.cell 2
     have hl3:=hk3.lt
     have hw3:=HWKR.out.fr HF3.out
     have g1:=hw3.p.cell 0
     have g2:=hw3.p.lt
     simp only[getsL]at d2 g1
     have HK3:=hdq hk3
     clear h3 hf3 hk3 hw3 c0 c1 c2 c3 c4 c5 c6
     go_wp2_with fail
     refine HR.out.mono ?_
     rintro _ w4 ⟨rfl,h4,hf4⟩
     have HF4:=hdq (HF3.out.trans hf4)
     have hk4:=HK3.out.fr hf4 HNT.out
     have HR:=hdq (HR2.out _ w4 h4 HF4.out)
     have d4:=hk4.cell 3
     have hl4:=hk4.lt
     have hw4:=HWKR.out.fr HF4.out
     have g4:=hw4.p.cell 0
     have gl4:=hw4.p.lt
     simp only[getsL]at d4 g4
     have HK4:=hdq hk4
     clear h4 hf4 hk4 hw4 d2 g1 g2
     go_wp2_with fail
     refine HR.out.mono ?_
     rintro _ w5 ⟨rfl,h5,hf5⟩
     have HF5:=hdq (HF4.out.trans hf5)
     have hk5:=HK4.out.fr hf5 HNT.out
     have HR:=hdq (HR3.out _ w5 h5 HF5.out)
     have d5:=hk5.cell 4
     have hl5:=hk5.lt
     have hw5:=HWKR.out.fr HF5.out
     have g5:=hw5.f.cell 0
     have gl5:=hw5.f.lt
     simp only[getsL]at d5 g5
     have HK5:=hdq hk5
     clear h5 hf5 hk5 hw5 d4 g4 gl4
     go_wp2_with fail
     refine HR.out.mono ?_
     rintro _ w6 ⟨rfl,h6,hf6⟩
     have HF6:=hdq (HF5.out.trans hf6)
     have hk6:=HK5.out.fr hf6 HNT.out
     have HR:=hdq (HR4.out _ w6 h6 HF6.out)
     have d6:=hk6.cell 5
     have hl6:=hk6.lt
     have hw6:=HWKR.out.fr HF6.out
     have g6:=hw6.f.cell 0
     have gl6:=hw6.f.lt
     simp only[getsL]at d6 g6
     have HK6:=hdq hk6
     clear h6 hf6 hk6 hw6 d5 g5 gl5
     go_wp2_with fail
     refine HR.out.mono ?_
     rintro _ w7 ⟨rfl,h7,hf7⟩
     have HN:=hdq (aiq h7 ((HB.out.trans HF6.out).trans hf7))
     clear h7 hf7 d6 g6 gl6
     go_wp2_with fail
     go_roundw
     case rel=>exact⟨k+1,_,by omega,by go_num,HN.out.2,HN.out.1,HST3.out⟩
     case measure=>simp[intOf];omega
   ·obtain⟨⟨x1,x2⟩,hx⟩:=nmq ((kn a1.data.toList).getD (0,0))
    obtain⟨p9,hp9⟩:=nmq ((x2==(a2.len:Int)))
    have HST3:=hdq (show F=stmtsC kn (Sts.drop (k+1) xs) (stmtsC kn a5 (stmtsC kn a4 (condsC kn a3 (exprsC kn a2 (askC (useC kn s a1.data.toList 3 a6) p9 (a6,114))))))from by
     rw[HST.out,hp9,show x2=((kn a1.data.toList).getD (0,0)).2 from by rw[←hx]];rfl)
    have hu:=HU.out 3
    rw[←hx]at hu
    unfold thV at hu
    simp only at hu
    have HU9:=hdq hu
    have e9:=hp9.symm
    clear HST hu hx hp9
    go_wp2_with fail
    rw[←HW2.out]
    refine HU9.out.mono ?_
    rintro _ w3 ⟨rfl,h3,hf3⟩
    have HF3:=hdq ((HF2.out.any:Fr (CkT P b) wr w2).trans hf3)
    have hk3:=HK2.out.fr hf3 HNT.out
    obtain⟨w3a,hw3a⟩:=nmq (w3.alloc (.cells #[.int .u8 x1,.int .i64 x2] 140))
    have hf3a:Fr NoT w3 w3a:=by rw[hw3a];exact(Fr.refl _ _).alloc _
    have HASK:=hdq (caskN_any P b N kn _ p9 a6 114 w3a (h3.fr0 hf3a))
    have HW3A:=hdq hw3a
    have HF3A:=hdq (HF3.out.trans hf3a.any)
    have d2:=hk3.cell 2
    have d6:=hk3.cell 6
    have hl3:=hk3.lt
    have hw3:=HWKR.out.fr HF3.out
    have g1:=hw3.p.cell 0
    have g2:=hw3.p.lt
    simp only[getsL]at d2 d6 g1
    have HK3A:=hdq (hk3.fr0 hf3a)
    clear h3 hf3 hk3 hw3 c0 c1 c2 c3 c4 c5 c6 hw3a hf3a HF3
    go_wp2_with fail
    rw[←HW3A.out]
    refine HASK.out.mono ?_
    rintro _ w3b ⟨rfl,h3,hf3⟩
    have HF3:=hdq (HF3A.out.trans hf3)
    have hk3:=HK3A.out.fr hf3 HNT.out
    have HR:=hdq (HR1.out _ w3b h3 HF3.out)
    have e2:=hk3.cell 2
    have hl3b:=hk3.lt
    have hw3:=HWKR.out.fr HF3.out
    have g1b:=hw3.p.cell 0
    have g2b:=hw3.p.lt
    simp only[getsL]at e2 g1b
    have HK3:=hdq hk3
    clear h3 hf3 hk3 hw3 d2 d6 g1 g2 e9
    go_wp2_with fail
    refine HR.out.mono ?_
    rintro _ w4 ⟨rfl,h4,hf4⟩
    have HF4:=hdq (HF3.out.trans hf4)
    have hk4:=HK3.out.fr hf4 HNT.out
    have HR:=hdq (HR2.out _ w4 h4 HF4.out)
    have d4:=hk4.cell 3
    have hl4:=hk4.lt
    have hw4:=HWKR.out.fr HF4.out
    have g4:=hw4.p.cell 0
    have gl4:=hw4.p.lt
    simp only[getsL]at d4 g4
    have HK4:=hdq hk4
    clear h4 hf4 hk4 hw4 e2 g1b g2b
    go_wp2_with fail
    refine HR.out.mono ?_
    rintro _ w5 ⟨rfl,h5,hf5⟩
    have HF5:=hdq (HF4.out.trans hf5)
    have hk5:=HK4.out.fr hf5 HNT.out
    have HR:=hdq (HR3.out _ w5 h5 HF5.out)
    have d5:=hk5.cell 4
    have hl5:=hk5.lt
    have hw5:=HWKR.out.fr HF5.out
    have g5:=hw5.f.cell 0
    have gl5:=hw5.f.lt
    simp only[getsL]at d5 g5
    have HK5:=hdq hk5
    clear h5 hf5 hk5 hw5 d4 g4 gl4
    go_wp2_with fail
    refine HR.out.mono ?_
    rintro _ w6 ⟨rfl,h6,hf6⟩
    have HF6:=hdq (HF5.out.trans hf6)
    have hk6:=HK5.out.fr hf6 HNT.out
    have HR:=hdq (HR4.out _ w6 h6 HF6.out)
    have d6:=hk6.cell 5
    have hl6:=hk6.lt
    have hw6:=HWKR.out.fr HF6.out
    have g6:=hw6.f.cell 0
    have gl6:=hw6.f.lt
    simp only[getsL]at d6 g6
    have HK6:=hdq hk6
    clear h6 hf6 hk6 hw6 d5 g5 gl5
    go_wp2_with fail
    refine HR.out.mono ?_
    rintro _ w7 ⟨rfl,h7,hf7⟩
    have HN:=hdq (aiq h7 ((HB.out.trans HF6.out).trans hf7))
    clear h7 hf7 d6 g6 gl6
    go_wp2_with fail
    go_roundw
    case rel=>exact⟨k+1,_,by omega,by go_num,HN.out.2,HN.out.1,HST3.out⟩
    case measure=>simp[intOf];omega
   ·have e2:(a0==2)=false:=by simpa using n2
    have e4:(a0==4)=false:=by simpa using n4
    have e3:(a0==3)=false:=by simpa using n3
    have e9:(a0==9)=false:=by simpa using n9
    have HST3:=hdq (show F=stmtsC kn (Sts.drop (k+1) xs) (stmtsC kn a5 (stmtsC kn a4 (condsC kn a3 (exprsC kn a2 s))))from by
     rw[HST.out];unfold headC;rw[if_neg (by simp[n2,n4]),if_neg n3,if_neg n9])
    have HR:=hdq (HR1.out _ w2 (HCN.out.fr0 HF2.out) HF2.out.any)
    have HF3:=hdq (HF2.out.any:Fr (CkT P b) wr w2)
    have HK3:=HK2
    clear n2 n4 n3 n9 HST
    go_wp2_with fail
    rw[←HW2.out]
    refine HR.out.mono ?_
    rintro _ w4 ⟨rfl,h4,hf4⟩
    have HF4:=hdq (HF3.out.trans hf4)
    have hk4:=HK3.out.fr hf4 HNT.out
    have HR:=hdq (HR2.out _ w4 h4 HF4.out)
    have d4:=hk4.cell 3
    have hl4:=hk4.lt
    have hw4:=HWKR.out.fr HF4.out
    have g4:=hw4.p.cell 0
    have gl4:=hw4.p.lt
    simp only[getsL]at d4 g4
    have HK4:=hdq hk4
    clear h4 hf4 hk4 hw4 c0 c1 c2 c3 c4 c5 c6
    go_wp2_with fail
    refine HR.out.mono ?_
    rintro _ w5 ⟨rfl,h5,hf5⟩
    have HF5:=hdq (HF4.out.trans hf5)
    have hk5:=HK4.out.fr hf5 HNT.out
    have HR:=hdq (HR3.out _ w5 h5 HF5.out)
    have d5:=hk5.cell 4
    have hl5:=hk5.lt
    have hw5:=HWKR.out.fr HF5.out
    have g5:=hw5.f.cell 0
    have gl5:=hw5.f.lt
    simp only[getsL]at d5 g5
    have HK5:=hdq hk5
    clear h5 hf5 hk5 hw5 d4 g4 gl4
    go_wp2_with fail
    refine HR.out.mono ?_
    rintro _ w6 ⟨rfl,h6,hf6⟩
    have HF6:=hdq (HF5.out.trans hf6)
    have hk6:=HK5.out.fr hf6 HNT.out
    have HR:=hdq (HR4.out _ w6 h6 HF6.out)
    have d6:=hk6.cell 5
    have hl6:=hk6.lt
    have hw6:=HWKR.out.fr HF6.out
    have g6:=hw6.f.cell 0
    have gl6:=hw6.f.lt
    simp only[getsL]at d6 g6
    have HK6:=hdq hk6
    clear h6 hf6 hk6 hw6 d5 g5 gl5
    go_wp2_with fail
    refine HR.out.mono ?_
    rintro _ w7 ⟨rfl,h7,hf7⟩
    have HN:=hdq (aiq h7 ((HB.out.trans HF6.out).trans hf7))
    clear h7 hf7 d6 g6 gl6
    go_wp2_with fail
    go_roundw
    case rel=>exact⟨k+1,_,by omega,by go_num,HN.out.2,HN.out.1,HST3.out⟩
    case measure=>simp[intOf];omega
  ·have HE:=hdq (show F=s from by rw[hall.out,Sts.drop_nil (by rw[←HM.out];omega)];rfl)
   have HB:=hdq hb.out
   have HCN:=hdq hcn.out
   clear hall hb hcn
   go_wp2_with fail
   go_end0
   exact⟨rfl,HE.out▸HCN.out,HB.out⟩
theorem csi_all (kn:Kn):∀xs:Sts,szS xs→CSI kn xs
 | .nil,_=>fun i _ _ _ _ _ _ _ _ hd=>by cases i<;>simp[Sts.drop]at hd
 | .cons k0 k1 k2 k3 k4 k5 k6 kr,hsz=>fun i _ _ _ _ _ _ _ _ hd=>by
  cases i with
  |zero=>
   simp only[Sts.drop]at hd
   injection hd with e0 e1 e2 e3 e4 e5 e6 e7
   subst e0 e1 e2 e3 e4 e5 e6 e7
   exact⟨hsz.1,cexprs_any kn k2 hsz.2.1,cconds_any kn k3 hsz.2.2.1,cs_one kn k4 (csi_all kn k4 hsz.2.2.2.1),cs_one kn k5 (csi_all kn k5 hsz.2.2.2.2.1)⟩
  |succ i=>
   simp only[Sts.drop]at hd
   exact csi_all kn kr hsz.2.2.2.2.2 i _ _ _ _ _ _ _ _ hd
theorem cstmts_any (kn:Kn) (xs:Sts) (hsz:szS xs):CS kn xs:=cs_one kn xs (csi_all kn xs hsz)

abbrev Cks:=Kn×(Int×Int)
def declC (s:Cks) (t:List UInt8) (at_:Int) (v:Int×Int):Cks:=(declK s.1 t v,declE s.1 s.2 t at_)
def declVs (v:Int×Int):List Va→Cks→Cks
 | [],s=>s
 |x::r,s=>declVs v r (declC s x.nm.data.toList x.at_ v)
def delVs:List Va→Kn→Kn
 | [],kn=>kn
 |x::r,kn=>delVs r (kn.del x.nm.data.toList)
def procC (nm:List UInt8) (ps:List Va) (body:Sts) (at_:Int) (s:Cks):Cks:=
 let s2:=declVs (1,0) ps (s.1,askC s.2 (decide ((ps.length:Int)≤4)) (at_,4))
 if s2.2.2=0 then((delVs ps s2.1).put nm (3,ps.length),stmtsC s2.1 body s2.2)else s2
theorem declVs_step {v:Int×Int} {xs:List Va} {i:Nat} {s:Cks} {a0 a1 ar} (hd:xs.drop i=(⟨a0,a1⟩:Va)::ar∧xs.drop (i+1)=ar):declVs v (xs.drop i) s=declVs v (xs.drop (i+1)) (declC s a0.data.toList a1 v):=by
 rw[hd.1,hd.2];rfl
theorem delVs_step {xs:List Va} {i:Nat} {kn:Kn} {a0 a1 ar} (hd:xs.drop i=(⟨a0,a1⟩:Va)::ar∧xs.drop (i+1)=ar):delVs (xs.drop i) kn=delVs (xs.drop (i+1)) (kn.del a0.data.toList):=by
 rw[hd.1,hd.2];rfl
theorem cwalk_any (P b:Nat) (w:World) (hP:P < w.heap.size) (hb:b < w.heap.size):Calls Tryz.prog 53 #[.pointer (some ⟨P,0,none⟩)] w fun e w'=>
  e= .returned (.func (.func 101) #[] #[.pointer (some ⟨w.heap.size,0,none⟩),.pointer (some ⟨w.heap.size+1,0,none⟩)])∧WkAt w' P b w.heap.size (w.heap.size+1)∧Fr NoT w w':=by
 have hmf:= @makeF Tryz.prog
 go_enter Tryz.func53,Tryz.ntmps53
 go_wp2_with fail
 go_ret
 refine⟨rfl,⟨?_,?_,fun e=>by rcases e with e|e<;>omega,fun e=>by rcases e with e|e<;>omega⟩,?_⟩
 ·exact(Bk.new _ _ _).alloc _
 ·exact Bk.new_at _ _ _ (by simp)
 ·exact((Fr.refl _ _).alloc _).alloc _
end Go.Proofs.YtfomomaomggpbaaGreatDoor
