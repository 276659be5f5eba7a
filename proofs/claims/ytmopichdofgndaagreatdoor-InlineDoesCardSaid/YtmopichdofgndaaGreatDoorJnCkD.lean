/-
  check: the map of what has a name, as a function.
-/
import Derived.Test.YtmopichdofgndaaGreatDoorJnCkC
import Derived.StillTail
import Derived.StillTailTactics
set_option linter.unusedVariables false
set_option linter.unusedSimpArgs false
set_option maxHeartbeats 1600000
set_option maxRecDepth 100000
namespace Go.Proofs.YtmopichdofgndaaGreatDoor
open Go.RowKit Go.Shelf Go.Maps

abbrev Kn:=List UInt8→Option (Int×Int)
def thV (v:Int×Int):Value:= .agg #[.int .u8 v.1,.int .i64 v.2]
def Kn.put (kn:Kn) (t:List UInt8) (v:Int×Int):Kn:=fun x=>if x=t then some v else kn x
def Kn.del (kn:Kn) (t:List UInt8):Kn:=fun x=>if x=t then none else kn x
def KnM (w:World) (b n:Nat) (kn:Kn):Prop:=
 ∃D,w.ownsMap Tryz.prog 9 heldB b n D∧∀t:List UInt8,Maps.has D (.string t)=(kn t).isSome ∧(∀v,kn t=some v→∀z,D.atKey (.string t) z= .held (thV v))∧(kn t=none→∀z,D.atKey (.string t) z=z)
theorem KnM.made (w:World):KnM (w.alloc (.map #[] 0)) w.heap.size 0 fun _=>none:=⟨_,World.ownsMap_made _ _ _ _,fun t=>⟨rfl,fun v h=>by simp at h,fun _ z=>rfl⟩⟩
theorem keyB' {s:ByteArray} (h:s.size≤9223372036854775807):keyOf Tryz.prog 9 (.string s)=some (.string s.data.toList):=
 WideMaps.keyOf_string_mk (P:=Tryz.prog) Tryz.underlying9 (s:=s) (by unfold maxLen;omega)
theorem KnM.lt {w:World} {b n:Nat} {kn:Kn} (h:KnM w b n kn):b < w.heap.size:=by
 obtain⟨D,hown,_⟩:=h
 exact hown.lt
theorem KnM.put {w:World} {b n:Nat} {kn:Kn} (h:KnM w b n kn) {s:ByteArray} (hs:s.size≤9223372036854775807) (v:Int×Int) (hn:n < maxLen):
  ∃w',(Instr.mapUpdate 145 (.map (some b)) (.string s) (thV v)).run Tryz.prog w= .ok () w'∧KnM w' b (n+1) (kn.put s.data.toList v)∧w.grownBy w' (some b):=by
 obtain⟨D,hown,hD⟩:=h
 obtain⟨w',hrun,hown',hg⟩:=hown.update strKey Tryz.underlying145 hn (keyB' hs) (val:=thV v) (d:= .held (thV v)) (ps:= []) rfl
 refine⟨w',hrun,⟨_,hown',fun x=>?_⟩,hg⟩
 have kx:WideAt.IsKeyLit (.string s.data.toList):=strKey.key (keyB' hs)
 unfold Kn.put
 by_cases e:x=s.data.toList
 ·subst e
  simp only[if_true]
  refine⟨by rw[has_put_same hown.isMap kx];rfl,fun u hu z=>?_,fun hu=>by simp at hu⟩
  rw[atKey_put_same hown.isMap kx]
  simp at hu
  rw[hu]
 ·have e2:(Lit.string x)≠ .string s.data.toList:=fun h=>e (by simpa using h)
  simp only[if_neg e]
  refine⟨by rw[has_put_other e2,(hD x).1],fun u hu z=>?_,fun hu z=>?_⟩
  ·rw[atKey_put_other e2]
   exact(hD x).2.1 u hu z
  ·rw[atKey_put_other e2]
   exact(hD x).2.2 hu z
theorem zeroThing (w:World):(zeroValue 150).run Tryz.prog w= .ok (.agg #[.int .u8 0,.int .i64 0]) w:=by kernel_rfl
theorem KnM.look {w:World} {b n:Nat} {kn:Kn} (h:KnM w b n kn) {s:ByteArray} (hs:s.size≤9223372036854775807):
  (Instr.lookup 145 (.map (some b)) (.string s) true).run Tryz.prog w= .ok (.tuple #[thV ((kn s.data.toList).getD (0,0)),.bool (kn s.data.toList).isSome]) w:=by
 obtain⟨D,hown,hD⟩:=h
 obtain⟨v,ps,hrun,hv⟩:=hown.look_ok strKey Tryz.underlying145 (zeroThing w) (zd:= .held _) (zp:= []) rfl (keyB' hs)
 rw[(hD s.data.toList).1]at hrun
 rw[hrun]
 cases hl:kn s.data.toList with
 |none=>
  rw[(hD s.data.toList).2.2 hl]at hv
  simp only[heldB,Option.some.injEq,Prod.mk.injEq,DataW.held.injEq]at hv
  rw[hv.1]
  rfl
 |some u=>
  rw[(hD s.data.toList).2.1 u hl]at hv
  simp only[heldB,Option.some.injEq,Prod.mk.injEq,DataW.held.injEq]at hv
  rw[hv.1]
  rfl
theorem KnM.drop {w:World} {b n:Nat} {kn:Kn} (h:KnM w b n kn) {s:ByteArray} (hs:s.size≤9223372036854775807) (ty:TypeId):
  ∃w',(Builtin.delete_ #[145,9] ty #[.map (some b),.string s]).run Tryz.prog w= .ok (.tuple #[]) w'∧KnM w' b n (kn.del s.data.toList)∧w.grownBy w' (some b):=by
 obtain⟨D,hown,hD⟩:=h
 obtain⟨w',hrun,hown',hg⟩:=hown.drop strKey Tryz.underlying145 (keyB' hs) ty
 refine⟨w',hrun,⟨_,hown',fun x=>?_⟩,hg.grown⟩
 unfold Kn.del
 by_cases e:x=s.data.toList
 ·subst e
  simp only[if_true]
  exact⟨has_del_same,fun u hu=>by simp at hu,fun _ z=>atKey_del_same z⟩
 ·have e2:(Lit.string x)≠ .string s.data.toList:=fun h=>e (by simpa using h)
  simp only[if_neg e]
  refine⟨by rw[has_del_other e2,(hD x).1],fun u hu z=>?_,fun hu z=>?_⟩
  ·rw[atKey_del_other e2]
   exact(hD x).2.1 u hu z
  ·rw[atKey_del_other e2]
   exact(hD x).2.2 hu z

structure CkAt (w:World) (P b n:Nat) (kn:Kn) (st:Int×Int):Prop where
 box:Bk w P 147 #[.map (some b),.int .i64 st.1,.int .i64 st.2]
 map:KnM w b n kn
 ne:P≠b
def CkT (P b:Nat):Nat→Prop:=fun x=>x=P∨x=b
theorem KnM.fr {w w':World} {b n:Nat} {kn:Kn} {T:Nat→Prop} (h:KnM w b n kn) (hf:Fr T w w') (ht:¬T b):KnM w' b n kn:=by
 obtain⟨D,⟨es,clock,hb,F,hs,hd⟩,hD⟩:=h
 exact⟨D,⟨es,clock,(hf.block b (Array.getElem?_eq_some_iff.1 hb).1 ht).trans hb,F,hs,hd⟩,hD⟩
theorem CkAt.fr {w w':World} {P b n:Nat} {kn:Kn} {st:Int×Int} {T:Nat→Prop} (h:CkAt w P b n kn st) (hf:Fr T w w') (h1:¬T P) (h2:¬T b):CkAt w' P b n kn st:=
 ⟨h.box.fr hf h1,h.map.fr hf h2,h.ne⟩
theorem CkAt.fr0 {w w':World} {P b n:Nat} {kn:Kn} {st:Int×Int} (h:CkAt w P b n kn st) (hf:Fr NoT w w'):CkAt w' P b n kn st:=h.fr hf id id
def failC (st p:Int×Int):Int×Int:=if st.2=0 then p else st
def askC (st:Int×Int) (is:Bool) (p:Int×Int):Int×Int:=if is then st else failC st p
def CkPost (P b n:Nat) (kn:Kn) (st:Int×Int) (W:World) (e:Ending) (w':World):Prop:=e= .returned (.tuple #[])∧CkAt w' P b n kn st∧Fr (CkT P b) W w'
theorem cfail_any (P b n:Nat) (kn:Kn) (st:Int×Int) (at_ er:Int) (w:World) (h:CkAt w P b n kn st):
  Calls Tryz.prog 144 #[.pointer (some ⟨P,0,none⟩),.int .i64 at_,.int .i64 er] w (CkPost P b n kn (failC st (at_,er)) w):=by
 obtain⟨a,e⟩:=st
 have hb:=h.box
 have c0:=hb.cell 0
 have c1:=hb.cell 1
 have c2:=hb.cell 2
 have f1:=hb.frozen 1
 have f2:=hb.frozen 2
 have hl:=hb.lt
 simp only[getsL]at c0 c1 c2
 have H:=hdq h
 clear h hb
 by_cases he:e=0
 ·subst he
  go_enter Tryz.func144,Tryz.ntmps144
  go_wp2_with fail
  go_end0
  refine⟨rfl,⟨?_,?_,H.out.ne⟩,?_⟩
  ·have:=(H.out.box.set_ 1 (.int .i64 at_)).set_ 2 (.int .i64 er)
   simpa[failC]using this
  ·exact H.out.map.fr (T:=fun x=>x=P) (Fr.own (Fr.own (Fr.refl _ _) _ _) _ _) (fun e=>H.out.ne e.symm)
  ·exact(Fr.own (Fr.own (Fr.refl _ _) _ _) _ _).mono fun i _ h=> .inl h
 ·have e1:(e==0)=false:=by simpa using he
  have hf:failC (a,e) (at_,er)=(a,e):=by unfold failC;rw[if_neg he]
  rw[hf]
  clear he hf
  go_enter Tryz.func144,Tryz.ntmps144
  go_wp2_with fail
  go_end0
  exact⟨rfl,H.out,Fr.refl _ _⟩
theorem cask_any (P b n:Nat) (kn:Kn) (st:Int×Int) (is:Bool) (at_ er:Int) (w:World) (h:CkAt w P b n kn st):
  Calls Tryz.prog 78 #[.pointer (some ⟨P,0,none⟩),.bool is,.int .i64 at_,.int .i64 er] w (CkPost P b n kn (askC st is (at_,er)) w):=by
 have HC:=hdq (cfail_any P b n kn st at_ er w h)
 have H:=hdq h
 clear h
 cases is
 ·go_enter Tryz.func78,Tryz.ntmps78
  go_wp2_with fail
  refine HC.out.mono ?_
  rintro _ w1 ⟨rfl,h1,h2⟩
  have HH:=hdq (aiq h1 h2)
  clear h1 h2
  go_wp2_with fail
  go_end0
  exact⟨rfl,HH.out⟩
 ·go_enter Tryz.func78,Tryz.ntmps78
  go_wp2_with fail
  go_end0
  exact⟨rfl,H.out,Fr.refl _ _⟩

def useC (kn:Kn) (st:Int×Int) (t:List UInt8) (k at_:Int):Int×Int:=askC (askC st ((kn t).isSome &&((kn t).getD (0,0)).1 != 4) (at_,110)) (((kn t).getD (0,0)).1 ==k) (at_,112)
theorem cuse_any (P b n:Nat) (kn:Kn) (st:Int×Int) (s:ByteArray) (k at_:Int) (w:World) (h:CkAt w P b n kn st) (hs:s.size≤9223372036854775807):
  Calls Tryz.prog 147 #[.pointer (some ⟨P,0,none⟩),.string s,.int .u8 k,.int .i64 at_] w fun e w'=>
   e= .returned (thV ((kn s.data.toList).getD (0,0)))∧CkAt w' P b n kn (useC kn st s.data.toList k at_)∧Fr (CkT P b) w w':=by
 obtain⟨⟨x1,x2⟩,hx⟩:=nmq ((kn s.data.toList).getD (0,0))
 obtain⟨q,hq⟩:=nmq ((kn s.data.toList).isSome )
 unfold useC
 rw[←hx,←hq]
 simp only
 have hf1:Fr NoT w (w.alloc (.cells #[.int .u8 0,.int .i64 0] 150)):=(Fr.refl _ _).alloc _
 have hlk:=(h.map.fr hf1 id).look hs
 rw[←hx,←hq]at hlk
 unfold thV at hlk ⊢
 simp only at hlk ⊢
 obtain⟨w2,hw2⟩:=nmq ((w.alloc (.cells #[.int .u8 0,.int .i64 0] 150)).alloc (.cells #[.int .u8 x1,.int .i64 x2] 150))
 have hf2:Fr NoT w w2:=by rw[hw2];exact hf1.alloc _
 have hb0:=h.box
 have c0:=hb0.cell 0
 have hl:=hb0.lt
 simp only[getsL]at c0
 have hbl:=h.map.lt
 have hr2:Bk w2 w.heap.size 150 #[.int .u8 0,.int .i64 0]:=by rw[hw2];exact(Bk.new _ _ _).alloc _
 have ht2:Bk w2 (w.heap.size+1) 150 #[.int .u8 x1,.int .i64 x2]:=by rw[hw2];exact Bk.new_at _ _ _ (by simp)
 obtain⟨p4,hp4⟩:=nmq ((x1 != 4))
 obtain⟨p5,hp5⟩:=nmq ((x1==k))
 rw[←hp4,←hp5]
 have e4:=hp4.symm
 have e5:=hp5.symm
 have H1:=hdq (fun is=>cask_any P b n kn st is at_ 110 w2 (h.fr0 hf2))
 have HF2:=hdq hf2
 have HR2:=hdq hr2
 have HT2:=hdq ht2
 have HW2:=hdq hw2
 have hnT:¬CkT P b w.heap.size:=fun e=>by rcases e with e|e<;>omega
 have hnT1:¬CkT P b (w.heap.size+1):=fun e=>by rcases e with e|e<;>omega
 have HNT:=hdq (aiq hnT hnT1)
 clear hx hq h hf1 hf2 hw2 hr2 ht2 hb0 hp4 hp5 hnT hnT1
 cases q
 all_goals
  go_enter Tryz.func147,Tryz.ntmps147
  go_wp2_with fail
  rw[←HW2.out]
  refine(H1.out _).mono ?_
  rintro _ w3 ⟨rfl,h3,hf3⟩
  have ht3:=HT2.out.fr hf3 HNT.out.2
  have d0:=ht3.cell 0
  have hl3:=ht3.lt
  simp only[getsL]at d0
  have H3:=hdq (cask_any P b n kn _ p5 at_ 112 w3 h3)
  have HT3:=hdq ht3
  have HR3:=hdq (HR2.out.fr hf3 HNT.out.1)
  have HF3:=hdq ((HF2.out.mono fun _ _ h=>h.elim:Fr (CkT P b) w w2).trans hf3)
  clear h3 hf3 ht3
  go_wp2_with fail
  refine H3.out.mono ?_
  rintro _ w4 ⟨rfl,h4,hf4⟩
  have ht4:=HT3.out.fr hf4 HNT.out.2
  have hr4:=HR3.out.fr hf4 HNT.out.1
  have a0:=ht4.cell 0
  have a1:=ht4.cell 1
  have hl4:=ht4.lt
  have b0:=hr4.cell 0
  have b1:=hr4.cell 1
  have f0:=hr4.frozen 0
  have f1:=hr4.frozen 1
  have hl5:=hr4.lt
  simp only[getsL]at a0 a1 b0 b1
  have H4:=hdq h4
  have HF4:=hdq (HF3.out.trans hf4)
  have hr5:=(hr4.set_ 0 (.int .u8 x1)).set_ 1 (.int .i64 x2)
  have r0:=hr5.cell 0
  have r1:=hr5.cell 1
  have hl6:=hr5.lt
  simp only[List.getElem?_toArray,List.getElem?_cons_succ,List.getElem?_cons_zero,List.setIfInBounds_toArray,List.set_cons_zero,List.set_cons_succ]at r0 r1
  clear h4 hf4 ht4 hr4 hr5
  go_wp2_with fail
  refine bodyPost_ret (v:= .agg #[.int .u8 x1,.int .i64 x2]) (by simp[results,Tryz.results147,go_sem,r0,r1,hl6]) rfl ⟨rfl,?_,?_⟩
  ·exact H4.out.fr (T:=fun x=>x=w.heap.size) (Fr.own (Fr.own (Fr.refl _ _) _ _) _ _) (fun e=>HNT.out.1 (.inl e.symm)) (fun e=>HNT.out.1 (.inr e.symm))
  ·exact(HF4.out.high (lrq _) 0 _).high (lrq _) 1 _

def CkN (w:World) (P b N:Nat) (kn:Kn) (st:Int×Int):Prop:=∃n,n≤N∧CkAt w P b n kn st
def declK (kn:Kn) (t:List UInt8) (v:Int×Int):Kn:=if(kn t).isSome then kn else kn.put t v
def declE (kn:Kn) (st:Int×Int) (t:List UInt8) (at_:Int):Int×Int:=askC st (!(kn t).isSome) (at_,111)
theorem cdeclare_any (P b N:Nat) (kn:Kn) (st:Int×Int) (s:ByteArray) (at_:Int) (v:Int×Int) (w:World) (h:CkN w P b N kn st) (hs:s.size≤9223372036854775807) (hN:N < maxLen):
  Calls Tryz.prog 77 #[.pointer (some ⟨P,0,none⟩),.string s,.int .i64 at_,thV v] w fun e w'=>
   e= .returned (.tuple #[])∧CkN w' P b (N+1) (declK kn s.data.toList v) (declE kn st s.data.toList at_)∧Fr (CkT P b) w w':=by
 obtain⟨n,hn,h⟩:=h
 obtain⟨v1,v2⟩:=v
 obtain⟨⟨x1,x2⟩,hx⟩:=nmq ((kn s.data.toList).getD (0,0))
 obtain⟨q,hq⟩:=nmq ((kn s.data.toList).isSome )
 unfold declE declK
 rw[←hq]
 obtain⟨w1,hw1⟩:=nmq (w.alloc (.cells #[.int .u8 v1,.int .i64 v2] 150))
 have hf1:Fr NoT w w1:=by rw[hw1];exact(Fr.refl _ _).alloc _
 have hlk:=(h.map.fr hf1 id).look hs
 rw[←hx,←hq,hw1]at hlk
 unfold thV at hlk ⊢
 simp only at hlk ⊢
 obtain⟨w2,hw2⟩:=nmq ((w.alloc (.cells #[.int .u8 v1,.int .i64 v2] 150)).alloc (.cells #[.int .u8 x1,.int .i64 x2] 150))
 have hf2:Fr NoT w w2:=by rw[hw2];exact((Fr.refl _ _).alloc _).alloc _
 have hb0:=h.box
 have c0:=hb0.cell 0
 have hl:=hb0.lt
 simp only[getsL]at c0
 have hbl:=h.map.lt
 have hv2:Bk w2 w.heap.size 150 #[.int .u8 v1,.int .i64 v2]:=by rw[hw2];exact(Bk.new _ _ _).alloc _
 have H1:=hdq (fun is=>cask_any P b n kn st is at_ 111 w2 (h.fr0 hf2))
 have HF2:=hdq hf2
 have HV2:=hdq hv2
 have HW2:=hdq hw2
 have hnT:¬CkT P b w.heap.size:=fun e=>by rcases e with e|e<;>omega
 have HNT:=hdq hnT
 have HN:=hdq (aiq hn hN)
 have HS:=hdq hs
 clear hx hq h hf1 hf2 hw1 hw2 hv2 hb0 hnT hn hN
 cases q
 all_goals
  go_enter Tryz.func77,Tryz.ntmps77
  go_wp2_with fail
  rw[←HW2.out]
  refine(H1.out _).mono ?_
  rintro _ w3 ⟨rfl,h3,hf3⟩
  have hv3:=HV2.out.fr hf3 HNT.out
  have d0:=hv3.cell 0
  have d1:=hv3.cell 1
  have hl3:=hv3.lt
  have hb3:=h3.box
  have p0:=hb3.cell 0
  have hlp:=hb3.lt
  simp only[getsL]at d0 d1 p0
  obtain⟨w4,hput,h4,hg4⟩:=(h3.map.fr ((Fr.refl NoT w3).drew) id).put HS.out (v1,v2) (by have:=HN.out;omega)
  have H3:=hdq h3
  have H4:=hdq h4
  have HG4:=hdq hg4
  have HF3:=hdq ((HF2.out.mono fun _ _ h=>h.elim:Fr (CkT P b) w w2).trans hf3)
  unfold thV at hput
  simp only at hput
  clear h3 hf3 hv3 hb3 h4 hg4
 ·go_wp2_with fail
  refine wp_region_still_tail 6 (by kernel_rfl) (by kernel_rfl) ?_
  simp only[List.take_succ_cons,List.take_zero,List.drop_succ_cons,List.drop_zero]
  repeat still_step
  try refine wpStill_nil ?_
  go_wp2_with fail
  go_end0
  have hf4:Fr (CkT P b) w3 w4:=((Fr.refl _ _).drew).trans (Fr.grown HG4.out fun g e _=> .inr (Option.some.inj e).symm)
  have hb4:=H3.out.box.fr (((Fr.refl (fun x=>x=b) w3).drew).trans (Fr.grown HG4.out fun g e _=>(Option.some.inj e).symm)) H3.out.ne
  exact⟨rfl,⟨n+1,by have:=HN.out;omega,hb4,H4.out,H3.out.ne⟩,HF3.out.trans hf4⟩
 ·go_wp2_with fail
  go_end0
  exact⟨rfl,⟨n,by have:=HN.out;omega,H3.out⟩,HF3.out⟩
end Go.Proofs.YtmopichdofgndaaGreatDoor
