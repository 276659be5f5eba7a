/-
  big: deeds that store and read: the closures. Printed by wip/gen_in/reg.py.
-/
import Derived.Test.YtfomomaomggpbaaGreatDoorJgBgPut
set_option linter.unusedVariables false
set_option linter.unusedSimpArgs false
set_option maxHeartbeats 3200000
set_option maxRecDepth 100000
namespace Go.Proofs.YtfomomaomggpbaaGreatDoor
open Go.RowKit Go.Shelf

def PtS (x b:Nat) (A:Option Addr) (n c:Nat) (v0 v1:Value) (W:World):Prop:=W.cell? ⟨x,0,none⟩=some (.slice A n c)∧W.cell? ⟨b,0,none⟩=some v0∧W.cell? ⟨b,1,none⟩=some v1
def bgStS (C:BgC) (p q:Nat) (nm:ByteArray) (at_:Int) (vs:Value) (W:World):Prop:=W.cell? ⟨p,0,none⟩=some (.pointer (some ⟨C.P,0,none⟩))∧W.cell? ⟨C.P,1,none⟩=some (.map (some C.MA))∧W.cell? ⟨q,1,none⟩=some (.string nm)∧W.cell? ⟨q,6,none⟩=some (.int .i64 at_)∧(Instr.lookup 70 (.map (some C.MA)) (.string nm) false).run Tryz.prog W= .ok vs W
def InS (C:BgC) (p q nb:Nat) (nm:ByteArray) (a:Value) (b o n c:Nat) (x:Int) (W:World):Prop:=W.cell? ⟨p,0,none⟩=some (.pointer (some ⟨C.P,0,none⟩))∧W.cell? ⟨C.P,0,none⟩=some (.pointer (some ⟨C.R,0,none⟩))∧W.cell? ⟨q,1,none⟩=some (.string nm)∧(Instr.lookup 75 (.map (some nb)) (.string nm) false).run Tryz.prog W= .ok a W∧W.cell? ⟨C.R,0,none⟩=some (.slice (some ⟨b,o,none⟩) n c)∧W.cell? ⟨b,o,none⟩=some (.int .i64 x)
def stoO (n:Bn) (nm:ByteArray) (at_:Int) (X0 X1:Bs→Ho ⊕ Int) (s:Bs):Option Ho×Bs:=
 match s.left with
 |0=>(some ⟨2,0,at_⟩,s)
 |m+1=>match X0 {s with left:=m}with
  | .inl h=>(some h,{s with left:=m})
  | .inr a=>match X1 {s with left:=m}with
   | .inl h=>(some h,{s with left:=m})
   | .inr b=>if 0≤a∧a < (s.ls.getD (arrI n nm) []).length then(none,{s with left:=m,ls:=s.ls.set (arrI n nm) ((s.ls.getD (arrI n nm) []).set a.toNat b)})else(some ⟨5,5,at_⟩,{s with left:=m})
def inpO (n:Bn) (ps:List (List UInt8)) (nm:ByteArray) (at_:Int) (s:Bs):Option Ho×Bs:=
 match s.left with
 |0=>(some ⟨2,0,at_⟩,s)
 |m+1=>match s.script with
  | []=>(some ⟨3,0,at_⟩,{s with left:=m})
  |x::q=>(none,setB n ps {s with left:=m,script:=q} nm x)
theorem setB_script (n:Bn) (ps:List (List UInt8)) (s:Bs) (nm:ByteArray) (x:Int) (q:List Int):setB n ps {s with script:=q} nm x={setB n ps s nm x with script:=q}∧(setB n ps s nm x).script =s.script:=by
 unfold setB
 cases posI ps nm.data.toList<;>exact⟨rfl,rfl⟩
section
variable {C:BgC} {ps:List (List UInt8)} {w:World} {lo hi q:Nat} {k:Int} {nm:ByteArray} {at_:Int} {A2 A3 A4 A5:Option Addr} {l2 c2 l3 c3 l4 c4 l5 c5:Nat}
theorem put_3 {p x i:Nat} {A:Option Addr} {c:Nat} {v0 v1:Value} {X0 X1:Bs→Ho ⊕ Int} (ho:C.Ok) (hT:C.T≤lo) (hpg:PgAt C w) (hp:Bx lo hi w p 69 #[.pointer (some ⟨C.P,0,none⟩)]) (hq:Bx lo hi w q 51 (bgStC 3 nm A2 A3 A4 A5 l2 c2 l3 c3 l4 c4 l5 c5 at_))
  (hx:Bx lo hi w x 276 #[.slice A 2 c]) (hrow:RowF lo hi w A c [v0,v1]) (hs:nm.size≤9223372036854775807) (hia:posI C.n.arrs nm.data.toList=some i) (hv0:ValP C ps v0 X0 lo hi w) (hv1:ValP C ps v1 X1 lo hi w):
  DoP C ps (.func (.func 176) #[] #[.pointer (some ⟨p,0,none⟩),.pointer (some ⟨q,0,none⟩),.pointer (some ⟨x,0,none⟩)]) (fun s h t=>(h,t)=stoO C.n nm at_ X0 X1 s) lo hi w:=by
 obtain⟨g1,caps1,rfl,hg1,hcall1⟩:=hv0
 obtain⟨g2,caps2,rfl,hg2,hcall2⟩:=hv1
 refine⟨_,_,rfl,enters_of Tryz.func176 (by kernel_rfl) rfl,fun W oc nb s h t hW0 hD=>?_⟩
 have hW:=hW0.fr0 ho (Fr.refl NoT W).drew
 obtain⟨b,rfl,hb1,hb2,_⟩:=hrow.2.2 (by simp)
 have HS:=hdq (fun W' t (h':RunAt C lo hi w W' ps oc nb t)=>h'.cts ho hT hpg hp hq (i:=6) rfl)
 have HC:=hdq (fun W' t (h':RunAt C lo hi w W' ps oc nb t)=>cost_any h'.st ho at_)
 have HC1:=hdq (fun W' t (h':RunAt C lo hi w W' ps oc nb t)=>hcall1 W' oc nb t h')
 have HC2:=hdq (fun W' t (h':RunAt C lo hi w W' ps oc nb t)=>hcall2 W' oc nb t h')
 have HK:=hdq (fun W' t (h':RunAt C lo hi w W' ps oc nb t)=>(h'.bx ho hT hq).cell 0)
 have HAR:=hdq (fun W' t (h':RunAt C lo hi w W' ps oc nb t)=>array_at (hpg.run ho h') hs hia h'.st)
 have HP:=hdq (fun W' t (h':RunAt C lo hi w W' ps oc nb t)=>(show PtS x b (some ⟨b,0,none⟩) 2 c (.func (.func g1) #[] caps1) (.func (.func g2) #[] caps2) W' from by
  obtain⟨b',e,_,_,hc⟩:=(hrow.run ho hT h').2.2 (by simp)
  obtain rfl:b=b':=by simpa using e
  exact⟨(h'.bx ho hT hx).cell 0,hc 0 _ rfl,hc 1 _ rfl⟩))
 have HT:=hdq (fun W' t a (h':RunAt C lo hi w W' ps oc nb t) (hl:(Instr.lookup 70 (.map (some C.MA)) (.string nm) false).run Tryz.prog W'= .ok a W')=>(show bgStS C p q nm at_ a W' from⟨(h'.bx ho hT hp).cell 0,(hpg.run ho h').p.cell 1,(h'.bx ho hT hq).cell 1,(h'.bx ho hT hq).cell 6,hl⟩))
 have HF0:=hdq (fun W' W2 t (h':RunAt C lo hi w W' ps oc nb t) (hf:Fr NoT W' W2)=>h'.fr0 ho hf)
 have hc1:2≤c:=hrow.1
 have HO:=hdq ho
 have HIA:=hdq (show arrI C.n nm=i by unfold arrI;rw[hia];rfl)
 have HW:=hdq hW
 unfold Enters at hg1 hg2
 show Calls Tryz.prog 176 #[.map (some nb),.pointer (some ⟨p,0,none⟩),.pointer (some ⟨q,0,none⟩),.pointer (some ⟨x,0,none⟩)] W (DoQ C oc h t W)
 have HD:=hdq hD
 obtain⟨R,hR⟩:=nmq C.R
 rw[←hR]at HC
 clear hcall1 hcall2 hq hp hx hrow hT hs hia hW hW0 hpg hD ho hb1 hb2
 go_enter Tryz.func176,Tryz.ntmps176
 go_wp2_with fail
 refine wp_region_E (CtS C p q 6 at_) (fun _=>true) (by kernel_rfl) (HS.out _ _ HW.out) (fun hHeld=>?_)
 refine wpE_pu 4 ?_
 try simp only[Act.put,List.setIfInBounds_toArray,List.set_cons_zero,List.set_cons_succ]
 refine wpE_take 0 (v:=?_) rfl (by kernel_rfl) (fun _ _ _ h=>h) hHeld (by rfl) ?_ ?_;rotate_left
 ·intro wz hSz;(try dsimp only[CtS,InS,PtS,bgStS]at hSz);go_simp;try with_reducible rfl
 try simp only[Act.put,List.setIfInBounds_toArray,List.set_cons_zero,List.set_cons_succ]
 refine wpE_take 5 (v:=?_) rfl (by kernel_rfl) (fun _ _ _ h=>h) hHeld (by rfl) ?_ ?_;rotate_left
 ·intro wz hSz;(try dsimp only[CtS,InS,PtS,bgStS]at hSz);go_simp;try with_reducible rfl
 try simp only[Act.put,List.setIfInBounds_toArray,List.set_cons_zero,List.set_cons_succ]
 refine wpE_pu 1 ?_
 try simp only[Act.put,List.setIfInBounds_toArray,List.set_cons_zero,List.set_cons_succ]
 refine wpE_pu 2 ?_
 try simp only[Act.put,List.setIfInBounds_toArray,List.set_cons_zero,List.set_cons_succ]
 refine wpE_take 3 (v:=?_) rfl (by kernel_rfl) (fun _ _ _ h=>h) hHeld (by rfl) ?_ ?_;rotate_left
 ·intro wz hSz;(try dsimp only[CtS,InS,PtS,bgStS]at hSz);go_simp;try with_reducible rfl
 try simp only[Act.put,List.setIfInBounds_toArray,List.set_cons_zero,List.set_cons_succ]
 refine wpE_next 6 rfl (by kernel_rfl) (fun KK hK=>?_)
 go_simp
 go_at_call 110
 rw[←hR]
 refine(HC.out _ _ HW.out).mono ?_
 rintro e w1 (⟨h0,rfl,rfl⟩|⟨m,hm,rfl,hs1,hf1⟩)
 ·have hr2:=HD.out
  unfold stoO at hr2
  simp only[h0]at hr2
  obtain⟨rfl,rfl⟩:=Prod.mk.inj hr2
  exact⟨rfl,rfl,HW.out.st,(Fr.refl _ _).drew⟩
 have hr1:RunAt C lo hi w w1 ps oc nb {s with left:=m}:=HW.out.next hf1.toO hs1 (by show m≤s.left;omega)
 have hd:=HD.out
 unfold stoO at hd
 simp only[hm]at hd
 have H1:=hdq hr1
 have HF1:=hdq (show Fr (C.MutO oc) W w1 from((Fr.refl _ _).drew.trans hf1).toO)
 have HD1:=hdq hd
 have c3:=HK.out _ _ hr1
 clear hs1 hf1 hr1 hm HC hR hHeld HD hd
 try dsimp only
 refine hK _ _ (fun _ _=>HS.out _ _ H1.out) ?_
 clear hK KK
 try simp only[Act.put,List.setIfInBounds_toArray,List.set_cons_zero,List.set_cons_succ]
 refine wpE_done (by kernel_rfl) ?_
 go_wp2_with fail
 have h1d:=HF0.out _ _ _ H1.out (Fr.refl NoT w1).drew
 refine wp_region_E (PtS x b (some ⟨b,0,none⟩) 2 c (.func (.func g1) #[] caps1) (.func (.func g2) #[] caps2)) (fun _=>true) (by kernel_rfl) (HP.out _ _ h1d) (fun hHeld=>?_)
 have H1D:=hdq h1d
 clear h1d c3
 refine wpE_pu 3 ?_
 try simp only[Act.put,List.setIfInBounds_toArray,List.set_cons_zero,List.set_cons_succ]
 refine wpE_pu 8 ?_
 try simp only[Act.put,List.setIfInBounds_toArray,List.set_cons_zero,List.set_cons_succ]
 refine wpE_take 0 (v:=?_) rfl (by kernel_rfl) (fun _ _ _ h=>h) hHeld (by rfl) ?_ ?_;rotate_left
 ·intro wz hSz;(try dsimp only[CtS,InS,PtS,bgStS]at hSz);go_simp;try with_reducible rfl
 try simp only[Act.put,List.setIfInBounds_toArray,List.set_cons_zero,List.set_cons_succ]
 refine wpE_take 5 (v:=?_) rfl (by kernel_rfl) (fun _ _ _ h=>h) hHeld (by rfl) ?_ ?_;rotate_left
 ·intro wz hSz;(try dsimp only[CtS,InS,PtS,bgStS]at hSz);go_simp;try with_reducible rfl
 try simp only[Act.put,List.setIfInBounds_toArray,List.set_cons_zero,List.set_cons_succ]
 refine wpE_pu 1 ?_
 try simp only[Act.put,List.setIfInBounds_toArray,List.set_cons_zero,List.set_cons_succ]
 refine wpE_pu 6 ?_
 try simp only[Act.put,List.setIfInBounds_toArray,List.set_cons_zero,List.set_cons_succ]
 refine wpE_take 2 (v:=?_) rfl (by kernel_rfl) (fun _ _ _ h=>h) hHeld (by rfl) ?_ ?_;rotate_left
 ·intro wz hSz;(try dsimp only[CtS,InS,PtS,bgStS]at hSz);go_simp;try with_reducible rfl
 try simp only[Act.put,List.setIfInBounds_toArray,List.set_cons_zero,List.set_cons_succ]
 refine wpE_take 7 (v:=?_) rfl (by kernel_rfl) (fun _ _ _ h=>h) hHeld (by rfl) ?_ ?_;rotate_left
 ·intro wz hSz;(try dsimp only[CtS,InS,PtS,bgStS]at hSz);go_simp;try with_reducible rfl
 try simp only[Act.put,List.setIfInBounds_toArray,List.set_cons_zero,List.set_cons_succ]
 refine wpE_next 4 rfl (by kernel_rfl) (fun KK hK=>?_)
 go_simp
 refine(HC1.out _ _ H1D.out).mono ?_
 rintro e w2 ⟨he,hf2⟩
 rcases hx0:X0 {s with left:=m}with ho0|a
 ·rw[hx0]at he
  obtain rfl:=he
  have hr3:=HD1.out
  simp only[hx0]at hr3
  obtain⟨rfl,rfl⟩:=Prod.mk.inj hr3
  exact⟨rfl,rfl,(HF0.out _ _ _ H1D.out hf2).st,HF1.out.trans ((Fr.refl NoT w1).drew.trans hf2).any⟩
 rw[hx0]at he
 obtain⟨rfl,ha⟩:=he
 have H2:=hdq (HF0.out _ _ _ H1D.out hf2)
 have HF2:=hdq (show Fr (C.MutO oc) W w2 from HF1.out.trans ((Fr.refl NoT w1).drew.trans hf2).any)
 have HX0:=hdq hx0
 clear hf2 ha hx0 HC1
 try dsimp only
 refine hK _ _ (fun _ _=>HP.out _ _ H2.out) ?_
 clear hK KK
 try simp only[Act.put,List.setIfInBounds_toArray,List.set_cons_zero,List.set_cons_succ]
 refine wpE_next 9 rfl (by kernel_rfl) (fun KK hK=>?_)
 go_simp
 refine(HC2.out _ _ H2.out).mono ?_
 rintro e w3 ⟨he,hf3⟩
 rcases hx1:X1 {s with left:=m}with ho1|d
 ·rw[hx1]at he
  obtain rfl:=he
  have hr3:=HD1.out
  simp only[HX0.out,hx1]at hr3
  obtain⟨rfl,rfl⟩:=Prod.mk.inj hr3
  exact⟨rfl,rfl,(HF0.out _ _ _ H2.out hf3).st,HF2.out.trans hf3.any⟩
 rw[hx1]at he
 obtain⟨rfl,hd64⟩:=he
 have H3:=hdq (HF0.out _ _ _ H2.out hf3)
 have H3D:=hdq (HF0.out _ _ _ H3.out (Fr.refl NoT w3).drew)
 have HF3:=hdq (show Fr (C.MutO oc) W w3.drew from HF2.out.trans (hf3.drew).any)
 have hd2:=HD1.out
 simp only[HX0.out,hx1]at hd2
 have HD2:=hdq hd2
 have H64:=hdq hd64
 clear hf3 hd64 hx1 HD1 HX0 hd2
 try dsimp only
 refine hK _ _ (fun _ _=>HP.out _ _ H3.out) ?_
 clear hK KK
 try simp only[Act.put,List.setIfInBounds_toArray,List.set_cons_zero,List.set_cons_succ]
 refine wpE_pu 10 ?_
 try simp only[Act.put,List.setIfInBounds_toArray,List.set_cons_zero,List.set_cons_succ]
 refine wpE_pu 11 ?_
 try simp only[Act.put,List.setIfInBounds_toArray,List.set_cons_zero,List.set_cons_succ]
 refine wpE_done (by kernel_rfl) ?_
 go_wp2_with fail
 obtain⟨gb,l,hgb,hl,hgl,hl1,hbk,h64,hlk⟩:=HAR.out _ _ H3D.out
 have HE:=hdq (fun W'=>element_any gb l.length a at_ hl1 W')
 obtain⟨z,hz⟩:=nmq l.length
 rw[←hz]at HE hlk
 refine wp_region_E (bgStS C p q nm at_ (.slice (some ⟨gb,0,none⟩) z z)) (fun i=>decide (i < 13)) (by kernel_rfl) (HT.out _ _ _ H3D.out hlk) (fun hHeld=>?_)
 have HGB:=hdq hgb
 have HLL:=hdq hl
 have HGL:=hdq hgl
 have HBK:=hdq hbk
 have HZ:=hdq hz
 have HH:=hdq hHeld
 clear hgb hl hgl hbk hz hlk h64 hl1
 refine wpE_pu 4 ?_
 try simp only[Act.put,List.setIfInBounds_toArray,List.set_cons_zero,List.set_cons_succ]
 refine wpE_pu 7 ?_
 try simp only[Act.put,List.setIfInBounds_toArray,List.set_cons_zero,List.set_cons_succ]
 refine wpE_pu 8 ?_
 try simp only[Act.put,List.setIfInBounds_toArray,List.set_cons_zero,List.set_cons_succ]
 refine wpE_pu 11 ?_
 try simp only[Act.put,List.setIfInBounds_toArray,List.set_cons_zero,List.set_cons_succ]
 refine wpE_take 0 (v:=?_) rfl (by kernel_rfl) (fun _ _ _ h=>h) hHeld (by rfl) ?_ ?_;rotate_left
 ·intro wz hSz;(try dsimp only[CtS,InS,PtS,bgStS]at hSz);go_simp;try with_reducible rfl
 try simp only[Act.put,List.setIfInBounds_toArray,List.set_cons_zero,List.set_cons_succ]
 refine wpE_take 5 (v:=?_) rfl (by kernel_rfl) (fun _ _ _ h=>h) hHeld (by rfl) ?_ ?_;rotate_left
 ·intro wz hSz;(try dsimp only[CtS,InS,PtS,bgStS]at hSz);go_simp;try with_reducible rfl
 try simp only[Act.put,List.setIfInBounds_toArray,List.set_cons_zero,List.set_cons_succ]
 refine wpE_take 9 (v:=?_) rfl (by kernel_rfl) (fun _ _ _ h=>h) hHeld (by rfl) ?_ ?_;rotate_left
 ·intro wz hSz;(try dsimp only[CtS,InS,PtS,bgStS]at hSz);go_simp;try with_reducible rfl
 try simp only[Act.put,List.setIfInBounds_toArray,List.set_cons_zero,List.set_cons_succ]
 refine wpE_pu 1 ?_
 try simp only[Act.put,List.setIfInBounds_toArray,List.set_cons_zero,List.set_cons_succ]
 refine wpE_pu 2 ?_
 try simp only[Act.put,List.setIfInBounds_toArray,List.set_cons_zero,List.set_cons_succ]
 refine wpE_take 3 (v:=?_) rfl (by kernel_rfl) (fun _ _ _ h=>h) hHeld (by rfl) ?_ ?_;rotate_left
 ·intro wz hSz;(try dsimp only[CtS,InS,PtS,bgStS]at hSz);go_simp;try with_reducible rfl
 try simp only[Act.put,List.setIfInBounds_toArray,List.set_cons_zero,List.set_cons_succ]
 refine wpE_take 6 (v:=?_) rfl (by kernel_rfl) (fun _ _ _ h=>h) hHeld (by rfl) ?_ ?_;rotate_left
 ·intro wz hSz;(try dsimp only[CtS,InS,PtS,bgStS]at hSz);go_simp;try with_reducible rfl
 try simp only[Act.put,List.setIfInBounds_toArray,List.set_cons_zero,List.set_cons_succ]
 refine wpE_next 10 rfl (by kernel_rfl) (fun KK hK=>?_)
 go_simp
 go_at_call 177
 refine(HE.out _).mono ?_
 rintro e w4 ⟨rfl,hel⟩
 have hd3:=HD2.out
 rw[show s.ls.getD (arrI C.n nm) []=l from HGL.out]at hd3
 rw[←HZ.out]at hd3
 rcases hel with⟨h0,h1,rfl⟩|⟨h0,rfl⟩
 case inr=>
  rw[if_neg h0]at hd3
  obtain⟨rfl,rfl⟩:=Prod.mk.inj hd3
  exact⟨rfl,rfl,H3D.out.st,HF3.out⟩
 rw[if_pos ⟨h0,h1⟩,HIA.out]at hd3
 obtain⟨rfl,rfl⟩:=Prod.mk.inj hd3
 have hset:=H3D.out.st.setA HO.out HGB.out HLL.out a.toNat H64.out
 have z1:=HBK.out.frozen a.toNat
 have z2:=HBK.out.lt
 obtain⟨y0,z0⟩:∃y,w3.drew.cell? ⟨gb,a.toNat,none⟩=some y:=by
  have hjl:a.toNat < l.length:=by rw[←HZ.out];omega
  have:=HBK.out.cell a.toNat
  rw[this]
  exact⟨_,by simp[intL,List.getElem?_eq_getElem hjl];rfl⟩
 have hq:DoQ C oc none _ W (.returned (.tuple #[])) (w3.drew.setCell ⟨gb,a.toNat,none⟩ (.int .i64 d)):=⟨rfl,hset,HF3.out.setCell (p:=⟨gb,a.toNat,none⟩) (.inl (.inl (.inr (.inr (.inl (List.mem_of_getElem? HGB.out)))))) _⟩
 have HQ:=hdq hq
 clear hset hd3 h0 h1 hq
 try dsimp only
 refine hK _ _ (fun _ _=>HH.out) ?_
 clear hK KK
 try simp only[Act.put,List.setIfInBounds_toArray,List.set_cons_zero,List.set_cons_succ]
 refine wpE_pu 12 ?_
 try simp only[Act.put,List.setIfInBounds_toArray,List.set_cons_zero,List.set_cons_succ]
 refine wpE_next 13 rfl (by kernel_rfl) (fun KK hK=>?_)
 go_simp
 refine hK _ _ (fun h=>absurd h (by decide)) ?_
 clear hK KK
 try simp only[Act.put,List.setIfInBounds_toArray,List.set_cons_zero,List.set_cons_succ]
 refine wpE_done (by kernel_rfl) ?_
 go_wp2_with fail
 go_end0
 exact HQ.out
end
end Go.Proofs.YtfomomaomggpbaaGreatDoor

namespace Go.Proofs.YtfomomaomggpbaaGreatDoor
open Go.RowKit Go.Shelf

section
variable {C:BgC} {ps:List (List UInt8)} {w:World} {lo hi q:Nat} {k:Int} {nm:ByteArray} {at_:Int} {A2 A3 A4 A5:Option Addr} {l2 c2 l3 c3 l4 c4 l5 c5:Nat}
theorem put_4 {p x:Nat} {xs:Array Value} (ho:C.Ok) (hT:C.T≤lo) (hpg:PgAt C w) (hp:Bx lo hi w p 69 #[.pointer (some ⟨C.P,0,none⟩)]) (hq:Bx lo hi w q 51 (bgStC 4 nm A2 A3 A4 A5 l2 c2 l3 c3 l4 c4 l5 c5 at_))
  (hs:nm.size≤9223372036854775807) (hin:InSc C.n ps nm):
  DoP C ps (.func (.func 176) #[] #[.pointer (some ⟨p,0,none⟩),.pointer (some ⟨q,0,none⟩),.pointer (some ⟨x,0,none⟩)]) (fun s h t=>(h,t)=inpO C.n ps nm at_ s) lo hi w:=by
 refine⟨_,_,rfl,enters_of Tryz.func176 (by kernel_rfl) rfl,fun W oc nb s h t hW0 hD=>?_⟩
 have hW:=hW0.fr0 ho (Fr.refl NoT W).drew
 have HS:=hdq (fun W' t (h':RunAt C lo hi w W' ps oc nb t)=>h'.cts ho hT hpg hp hq (i:=6) rfl)
 have HC:=hdq (fun W' t (h':RunAt C lo hi w W' ps oc nb t)=>cost_any h'.st ho at_)
 have HK:=hdq (fun W' t (h':RunAt C lo hi w W' ps oc nb t)=>(h'.bx ho hT hq).cell 0)
 have HSC:=hdq (fun W' t (h':RunAt C lo hi w W' ps oc nb t)=>scalar_at h' hs hin)
 have HP:=hdq (fun W' t a b o n c x (h':RunAt C lo hi w W' ps oc nb t) (hl:(Instr.lookup 75 (.map (some nb)) (.string nm) false).run Tryz.prog W'= .ok a W') (h1:W'.cell? ⟨C.R,0,none⟩=some (.slice (some ⟨b,o,none⟩) n c)) (h2:W'.cell? ⟨b,o,none⟩=some (.int .i64 x))=>(show InS C p q nb nm a b o n c x W' from⟨(h'.bx ho hT hp).cell 0,(hpg.run ho h').p.cell 0,(h'.bx ho hT hq).cell 1,hl,h1,h2⟩))
 have HF0:=hdq (fun W' W2 t (h':RunAt C lo hi w W' ps oc nb t) (hf:Fr NoT W' W2)=>h'.fr0 ho hf)
 have HO:=hdq ho
 have HW:=hdq hW
 show Calls Tryz.prog 176 #[.map (some nb),.pointer (some ⟨p,0,none⟩),.pointer (some ⟨q,0,none⟩),.pointer (some ⟨x,0,none⟩)] W (DoQ C oc h t W)
 have HD:=hdq hD
 obtain⟨R,hR⟩:=nmq C.R
 rw[←hR]at HC
 clear hq hp hT hs hin hW hW0 hpg hD ho
 go_enter Tryz.func176,Tryz.ntmps176
 go_wp2_with fail
 refine wp_region_E (CtS C p q 6 at_) (fun _=>true) (by kernel_rfl) (HS.out _ _ HW.out) (fun hHeld=>?_)
 refine wpE_pu 4 ?_
 try simp only[Act.put,List.setIfInBounds_toArray,List.set_cons_zero,List.set_cons_succ]
 refine wpE_take 0 (v:=?_) rfl (by kernel_rfl) (fun _ _ _ h=>h) hHeld (by rfl) ?_ ?_;rotate_left
 ·intro wz hSz;(try dsimp only[CtS,InS]at hSz);go_simp;try with_reducible rfl
 try simp only[Act.put,List.setIfInBounds_toArray,List.set_cons_zero,List.set_cons_succ]
 refine wpE_take 5 (v:=?_) rfl (by kernel_rfl) (fun _ _ _ h=>h) hHeld (by rfl) ?_ ?_;rotate_left
 ·intro wz hSz;(try dsimp only[CtS,InS]at hSz);go_simp;try with_reducible rfl
 try simp only[Act.put,List.setIfInBounds_toArray,List.set_cons_zero,List.set_cons_succ]
 refine wpE_pu 1 ?_
 try simp only[Act.put,List.setIfInBounds_toArray,List.set_cons_zero,List.set_cons_succ]
 refine wpE_pu 2 ?_
 try simp only[Act.put,List.setIfInBounds_toArray,List.set_cons_zero,List.set_cons_succ]
 refine wpE_take 3 (v:=?_) rfl (by kernel_rfl) (fun _ _ _ h=>h) hHeld (by rfl) ?_ ?_;rotate_left
 ·intro wz hSz;(try dsimp only[CtS,InS]at hSz);go_simp;try with_reducible rfl
 try simp only[Act.put,List.setIfInBounds_toArray,List.set_cons_zero,List.set_cons_succ]
 refine wpE_next 6 rfl (by kernel_rfl) (fun KK hK=>?_)
 go_simp
 go_at_call 110
 rw[←hR]
 refine(HC.out _ _ HW.out).mono ?_
 rintro e w1 (⟨h0,rfl,rfl⟩|⟨m,hm,rfl,hs1,hf1⟩)
 ·have hr2:=HD.out
  unfold inpO at hr2
  simp only[h0]at hr2
  obtain⟨rfl,rfl⟩:=Prod.mk.inj hr2
  exact⟨rfl,rfl,HW.out.st,(Fr.refl _ _).drew⟩
 have hr1:RunAt C lo hi w w1 ps oc nb {s with left:=m}:=HW.out.next hf1.toO hs1 (by show m≤s.left;omega)
 have hd:=HD.out
 unfold inpO at hd
 simp only[hm]at hd
 have H1:=hdq hr1
 have HF1:=hdq (show Fr (C.MutO oc) W w1 from((Fr.refl _ _).drew.trans hf1).toO)
 have HD1:=hdq hd
 have c3:=HK.out _ _ hr1
 obtain⟨d0,d1,d2⟩:=HS.out _ _ hr1
 obtain⟨As,cs,hsl,hbk⟩:=hs1.run
 have d3:=hbk.cell 0
 simp only[runV,List.getElem?_toArray,List.getElem?_cons_zero]at d3
 have HSL:=hdq hsl
 have HBK:=hdq hbk
 clear hs1 hf1 hr1 hm HC hHeld HD hd hsl hbk
 try dsimp only
 refine hK _ _ (fun _ _=>HS.out _ _ H1.out) ?_
 clear hK KK
 try simp only[Act.put,List.setIfInBounds_toArray,List.set_cons_zero,List.set_cons_succ]
 refine wpE_done (by kernel_rfl) ?_
 have hcs:s.script= []∨∃x0 r,s.script=x0::r:=by
  cases s.script with
  |nil=>exact .inl rfl
  |cons x r=>exact .inr ⟨x,r,rfl⟩
 rcases hcs with hsc|⟨x0,r,hsc⟩
 ·have hd2:=HD1.out
  simp only[hsc]at hd2
  obtain⟨rfl,rfl⟩:=Prod.mk.inj hd2
  rw[hsc]at d3
  have hst:BgSt C oc {s with left:=m,script:= []} w1:=by
   have h9:=H1.out.st
   rw[show({s with left:=m}:Bs)={s with left:=m,script:= []} by rw[←hsc]]at h9
   exact h9
  have HQ:=hdq (show DoQ C oc (some ⟨3,0,at_⟩) {s with left:=m,script:= []} W (endE ⟨3,0,at_⟩) w1 from⟨rfl,hst,HF1.out⟩)
  clear hd2 HD1 HSL HBK hsc hR hst
  go_wp2_with fail
  exact⟨rfl,HQ.out⟩
 ·have hd2:=HD1.out
  simp only[hsc]at hd2
  obtain⟨rfl,rfl⟩:=Prod.mk.inj hd2
  rw[hsc]at d3
  have hsl:=HSL.out
  rw[show({s with left:=m}:Bs).script =x0::r from hsc]at hsl
  obtain⟨hl1,hl2,hl3⟩:=hsl
  obtain⟨b,o,rfl,hat⟩:=hl3 (by simp)
  have hx0:=(hat.2 0 x0 rfl).1
  rw[Nat.add_zero]at hx0
  have hx64:is64 x0:=by have:=(hat.2 0 x0 rfl).2;unfold in64 at this;unfold is64;omega
  obtain⟨n,hn⟩:=nmq ((x0::r).length )
  rw[←hn]at d3 hl1
  have hn0:0 < n:=by rw[hn];simp
  have hn1:1≤n:=hn0
  have e0:((n:Int)==0)=false:=by simp;omega
  have e1n:(1:Int)≤(n:Int):=by omega
  obtain⟨As',hAs⟩:∃A:Option Addr,A=if cs=1 then some ⟨b,o,none⟩else some ⟨b,o+1,none⟩:=⟨_,rfl⟩
  have hrest:IsSl w1 C.B r As' (cs - 1):=by
   have hrl:r.length+1=n:=by rw[hn];simp
   refine⟨by omega,by omega,fun hp=>⟨b,o+1,by rw[hAs,if_neg (by omega)],hat.1,fun i y hi=>?_⟩⟩
   have:=hat.2 (i+1) y (by simpa using hi)
   rw[show o+1+i=o+(i+1)from by omega]
   exact this
  have h1d:=HF0.out _ _ _ H1.out (Fr.refl NoT w1).drew
  obtain⟨b2,o2,hlk,hcell,hset,hmut⟩:=HSC.out _ _ h1d
  have hne:=hmut.2 HO.out
  have hset2:=hset _ _ x0 HO.out h1d.st hx64
  have hbk2:Bk (w1.drew.setCell ⟨b2,o2,none⟩ (.int .i64 x0)) C.R 68 (runV C (some ⟨b,o,none⟩) cs {s with left:=m}):=(HBK.out.fr0 (Fr.refl NoT w1).drew).far (p:=⟨b2,o2,none⟩) (Ne.symm hne) _
  have hsb:=setB_script C.n ps {s with left:=m} nm x0 r
  have hvl:(setB C.n ps {s with left:=m} nm x0).vs.length =s.vs.length∧(setB C.n ps {s with left:=m} nm x0).ls =s.ls:=by
   unfold setB
   cases posI ps nm.data.toList<;>simp
  have hrv:runV C (some ⟨b,o,none⟩) cs {s with left:=m}=runV C (some ⟨b,o,none⟩) cs (setB C.n ps {s with left:=m} nm x0):=by
   unfold runV
   rw[hsb.2,hvl.1,hvl.2,setB_left]
  rw[hrv]at hbk2
  have hBW:C.B≤w1.heap.size:=H1.out.st.size HO.out
  have hb2B:¬b2 < C.B:=fun hlt=>by
   have hh:=(HO.out).br
   rcases hmut.1 with(e|e|e|e)|e
   ·omega
   ·have:=H1.out.st.sto.vl;have:=(HO.out).bl;omega
   ·obtain⟨i,hi⟩:=List.mem_iff_getElem?.1 e
    have hil:i < ({s with left:=m}:Bs).ls.length :=by rw[←H1.out.st.sto.len];exact(List.getElem?_eq_some_iff.1 hi).1
    have:=(H1.out.st.sto.each i b2 _ hi (List.getElem?_eq_getElem hil)).1
    have:=(HO.out).bl
    omega
   ·have:=(HO.out).bm;omega
   ·have:=H1.out.st.top b2 e;have:=(HO.out).rT;omega
  have hrest2:IsSl (w1.drew.setCell ⟨b2,o2,none⟩ (.int .i64 x0)) C.B r As' (cs - 1):=hrest.keep fun pp hpp=>by
   have hf:Fr (fun y=>y=b2) w1 (w1.drew.setCell ⟨b2,o2,none⟩ (.int .i64 x0)):=Fr.own ((Fr.refl _ _).drew) _ _
   exact hf.cell (ltq hpp hBW) fun e=>hb2B (by have e:pp.block=b2:=e;rw[←e];exact hpp)
  have hrd:=hset2.read HO.out (q:=r) hbk2 hrest2
  rw[←hsb.1]at hrd
  have hlr:r.length=n - 1:=by rw[hn];simp
  rw[hlr]at hrd
  obtain⟨z0,_,z1,z2⟩:=hcell _ _ h1d.st
  have y0:=hbk2.cell 0
  have y1:=hbk2.frozen 0
  have y2:=hbk2.lt
  simp only[runV,List.getElem?_toArray,List.getElem?_cons_zero]at y0
  have hff:Fr (C.MutO oc) W ((w1.drew.setCell ⟨b2,o2,none⟩ (.int .i64 x0)).setCell ⟨C.R,0,none⟩ (.slice As' (n - 1) (cs - 1))):=
   ((HF1.out.trans ((Fr.refl NoT w1).drew).any).setCell (p:=⟨b2,o2,none⟩) (.inl hmut.1) _).setCell (p:=⟨C.R,0,none⟩) (.inl (.inl (.inl rfl))) _
  have HQ:=hdq (show DoQ C oc none _ W (.returned (.tuple #[])) _ from⟨rfl,hrd,hff⟩)
  have HHD:=hdq (HP.out _ _ _ b o n cs x0 h1d (hlk _ (Fr.refl _ _)) d3 hx0)
  have hf2:Fr (C.MutO oc) w1.drew (w1.drew.setCell ⟨b2,o2,none⟩ (.int .i64 x0)):=(Fr.refl _ _).setCell (p:=⟨b2,o2,none⟩) (.inl hmut.1) _
  have hbo:(w1.drew.setCell ⟨b2,o2,none⟩ (.int .i64 x0)).cell? ⟨b,o,none⟩=some (.int .i64 x0):=by
   have hf:Fr (fun y=>y=b2) w1 (w1.drew.setCell ⟨b2,o2,none⟩ (.int .i64 x0)):=Fr.own ((Fr.refl _ _).drew) _ _
   exact(hf.cell (p:=⟨b,o,none⟩) (ltq hat.1 hBW) fun e=>hb2B (by have e:b=b2:=e;rw[←e];exact hat.1)).trans hx0
  have HHD2:=hdq (HP.out _ _ _ b o n cs x0 (h1d.next hf2 hset2 (by rw[setB_left];exact lrq _)) (hlk _ hf2) (by rw[y0,hsb.2,hn];simp only[hsc]) hbo)
  have hne':=Ne.symm hne
  have x1:=HBK.out.frozen 0
  have x2:=HBK.out.lt
  have HAS:=hdq hAs
  clear hrd hff hrest hrest2 hbk2 hset hset2 hcell hlk h1d hmut hd2 HD1 hrv hsb hvl hl3 hat hn hsc hlr hb2B hAs hf2 hbo
  go_wp2_with fail
  refine wp_region_E (InS C p q nb nm (.pointer (some ⟨b2,o2,none⟩)) b o n cs x0) (fun i=>decide (i < 29)) (by kernel_rfl) HHD.out (fun hHeld=>?_)
  refine wpE_pu 0 ?_
  try simp only[Act.put,List.setIfInBounds_toArray,List.set_cons_zero,List.set_cons_succ]
  refine wpE_pu 1 ?_
  try simp only[Act.put,List.setIfInBounds_toArray,List.set_cons_zero,List.set_cons_succ]
  refine wpE_takeN 2 (v:=?_) rfl (by kernel_rfl) (fun _ _ _ h=>h) hHeld (by rfl) ?_ ?_;rotate_left
  ·intro wz hSz;(try dsimp only[CtS,InS]at hSz);go_simp;try with_reducible rfl
  try simp only[Act.put,List.setIfInBounds_toArray,List.set_cons_zero,List.set_cons_succ]
  refine wpE_takeN 3 (v:=?_) rfl (by kernel_rfl) (fun _ _ _ h=>h) hHeld (by rfl) ?_ ?_;rotate_left
  ·intro wz hSz;(try dsimp only[CtS,InS]at hSz);go_simp;try with_reducible rfl
  try simp only[Act.put,List.setIfInBounds_toArray,List.set_cons_zero,List.set_cons_succ]
  refine wpE_takeN 4 (v:=?_) rfl (by kernel_rfl) (fun _ _ _ h=>h) hHeld (by rfl) ?_ ?_;rotate_left
  ·intro wz hSz;(try dsimp only[CtS,InS]at hSz);go_simp;try with_reducible rfl
  try simp only[Act.put,List.setIfInBounds_toArray,List.set_cons_zero,List.set_cons_succ]
  refine wpE_pu 5 ?_
  try simp only[Act.put,List.setIfInBounds_toArray,List.set_cons_zero,List.set_cons_succ]
  refine wpE_pu 6 ?_
  try simp only[Act.put,List.setIfInBounds_toArray,List.set_cons_zero,List.set_cons_succ]
  refine wpE_takeN 7 (v:=?_) rfl (by kernel_rfl) (fun _ _ _ h=>h) hHeld (by rfl) ?_ ?_;rotate_left
  ·intro wz hSz;(try dsimp only[CtS,InS]at hSz);go_simp;try with_reducible rfl
  try simp only[Act.put,List.setIfInBounds_toArray,List.set_cons_zero,List.set_cons_succ]
  refine wpE_takeN 8 (v:=?_) rfl (by kernel_rfl) (fun _ _ _ h=>h) hHeld (by rfl) ?_ ?_;rotate_left
  ·intro wz hSz;(try dsimp only[CtS,InS]at hSz);go_simp;try with_reducible rfl
  try simp only[Act.put,List.setIfInBounds_toArray,List.set_cons_zero,List.set_cons_succ]
  refine wpE_pu 9 ?_
  try simp only[Act.put,List.setIfInBounds_toArray,List.set_cons_zero,List.set_cons_succ]
  refine wpE_pu 10 ?_
  try simp only[Act.put,List.setIfInBounds_toArray,List.set_cons_zero,List.set_cons_succ]
  refine wpE_takeN 11 (v:=?_) rfl (by kernel_rfl) (fun _ _ _ h=>h) hHeld (by rfl) ?_ ?_;rotate_left
  ·intro wz hSz;(try dsimp only[CtS,InS]at hSz);go_simp;try with_reducible rfl
  try simp only[Act.put,List.setIfInBounds_toArray,List.set_cons_zero,List.set_cons_succ]
  refine wpE_pu 12 ?_
  try simp only[Act.put,List.setIfInBounds_toArray,List.set_cons_zero,List.set_cons_succ]
  refine wpE_pu 13 ?_
  try simp only[Act.put,List.setIfInBounds_toArray,List.set_cons_zero,List.set_cons_succ]
  refine wpE_takeN 14 (v:=?_) rfl (by kernel_rfl) (fun _ _ _ h=>h) hHeld (by rfl) ?_ ?_;rotate_left
  ·intro wz hSz;(try dsimp only[CtS,InS]at hSz);go_simp;try with_reducible rfl
  try simp only[Act.put,List.setIfInBounds_toArray,List.set_cons_zero,List.set_cons_succ]
  refine wpE_pu 15 ?_
  try simp only[Act.put,List.setIfInBounds_toArray,List.set_cons_zero,List.set_cons_succ]
  refine wpE_takeN 16 (v:=?_) rfl (by kernel_rfl) (fun _ _ _ h=>h) hHeld (by rfl) ?_ ?_;rotate_left
  ·intro wz hSz;(try dsimp only[CtS,InS]at hSz);go_simp;try with_reducible rfl
  try simp only[Act.put,List.setIfInBounds_toArray,List.set_cons_zero,List.set_cons_succ]
  refine wpE_takeN 17 (v:=?_) rfl (by kernel_rfl) (fun _ _ _ h=>h) hHeld (by rfl) ?_ ?_;rotate_left
  ·intro wz hSz;(try dsimp only[CtS,InS]at hSz);go_simp;try with_reducible rfl
  try simp only[Act.put,List.setIfInBounds_toArray,List.set_cons_zero,List.set_cons_succ]
  refine wpE_pu 18 ?_
  try simp only[Act.put,List.setIfInBounds_toArray,List.set_cons_zero,List.set_cons_succ]
  refine wpE_pu 19 ?_
  try simp only[Act.put,List.setIfInBounds_toArray,List.set_cons_zero,List.set_cons_succ]
  refine wpE_takeN 20 (v:=?_) rfl (by kernel_rfl) (fun _ _ _ h=>h) hHeld (by rfl) ?_ ?_;rotate_left
  ·intro wz hSz;(try dsimp only[CtS,InS]at hSz);go_simp;try with_reducible rfl
  try simp only[Act.put,List.setIfInBounds_toArray,List.set_cons_zero,List.set_cons_succ]
  refine wpE_pu 21 ?_
  try simp only[Act.put,List.setIfInBounds_toArray,List.set_cons_zero,List.set_cons_succ]
  refine wpE_pu 22 ?_
  try simp only[Act.put,List.setIfInBounds_toArray,List.set_cons_zero,List.set_cons_succ]
  refine wpE_takeN 23 (v:=?_) rfl (by kernel_rfl) (fun _ _ _ h=>h) hHeld (by rfl) ?_ ?_;rotate_left
  ·intro wz hSz;(try dsimp only[CtS,InS]at hSz);go_simp;try with_reducible rfl
  try simp only[Act.put,List.setIfInBounds_toArray,List.set_cons_zero,List.set_cons_succ]
  refine wpE_pu 24 ?_
  try simp only[Act.put,List.setIfInBounds_toArray,List.set_cons_zero,List.set_cons_succ]
  rw[←HAS.out]
  refine wpE_pu 25 ?_
  try simp only[Act.put,List.setIfInBounds_toArray,List.set_cons_zero,List.set_cons_succ]
  refine wpE_next 26 rfl (by kernel_rfl) (fun KK hK=>?_)
  go_simp
  refine hK _ _ (fun _ _=>HHD2.out) ?_
  clear hK KK
  try simp only[Act.put,List.setIfInBounds_toArray,List.set_cons_zero,List.set_cons_succ]
  refine wpE_pu 27 ?_
  try simp only[Act.put,List.setIfInBounds_toArray,List.set_cons_zero,List.set_cons_succ]
  refine wpE_pu 28 ?_
  try simp only[Act.put,List.setIfInBounds_toArray,List.set_cons_zero,List.set_cons_succ]
  refine wpE_next 29 rfl (by kernel_rfl) (fun KK hK=>?_)
  go_simp
  refine hK _ _ (fun h=>absurd h (by decide)) ?_
  clear hK KK
  try simp only[Act.put,List.setIfInBounds_toArray,List.set_cons_zero,List.set_cons_succ]
  refine wpE_done (by kernel_rfl) ?_
  go_wp2_with fail
  go_end0
  exact HQ.out
end
end Go.Proofs.YtfomomaomggpbaaGreatDoor
