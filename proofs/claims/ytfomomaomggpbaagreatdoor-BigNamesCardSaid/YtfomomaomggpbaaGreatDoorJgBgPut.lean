/-
  big: deeds that set: the closures. Printed by wip/gen_in/reg.py.
-/
import Derived.Test.YtfomomaomggpbaaGreatDoorBgCnd2
set_option linter.unusedVariables false
set_option linter.unusedSimpArgs false
set_option maxHeartbeats 1600000
set_option maxRecDepth 100000
namespace Go.Proofs.YtfomomaomggpbaaGreatDoor
open Go.RowKit Go.Shelf

def RowF (lo hi:Nat) (w:World) (A:Option Addr) (c:Nat) (vs:List Value):Prop:=vs.length≤c∧c≤9223372036854775807∧(0 < vs.length→∃b,A=some ⟨b,0,none⟩∧lo≤b∧b < hi∧∀(i:Nat) v,vs[i]?=some v→w.cell? ⟨b,i,none⟩=some v)
section
variable {C:BgC} {ps:List (List UInt8)} {w:World} {lo hi q:Nat} {k:Int} {nm:ByteArray} {at_:Int} {A2 A3 A4 A5:Option Addr} {l2 c2 l3 c3 l4 c4 l5 c5:Nat}
theorem RowF.run {A:Option Addr} {c:Nat} {vs:List Value} (hr:RowF lo hi w A c vs) (ho:C.Ok) (hT:C.T≤lo) {W:World} {oc:List Nat} {nb:Nat} {s:Bs} (h:RunAt C lo hi w W ps oc nb s):RowF lo hi W A c vs:=
 ⟨hr.1,hr.2.1,fun hp=>by
  obtain⟨b,e,h1,h2,h3⟩:=hr.2.2 hp
  exact⟨b,e,h1,h2,fun i v hv=>(World.cell?_of_block (h.lat.block b (.inr ⟨h1,h2⟩) (new_ok ho (leq9 hT h1)))).trans (h3 i v hv)⟩⟩
abbrev bgStC (k:Int) (nm:ByteArray) (A2 A3 A4 A5:Option Addr) (l2 c2 l3 c3 l4 c4 l5 c5:Nat) (at_:Int):Array Value:= #[.int .u8 k,.string nm,.slice A2 l2 c2,.slice A3 l3 c3,.slice A4 l4 c4,.slice A5 l5 c5,.int .i64 at_]
def PuS (q x b nb:Nat) (nm:ByteArray) (A:Option Addr) (n c:Nat) (v0 a:Value) (W:World):Prop:=W.cell? ⟨q,1,none⟩=some (.string nm)∧W.cell? ⟨x,0,none⟩=some (.slice A n c)∧W.cell? ⟨b,0,none⟩=some v0∧(Instr.lookup 75 (.map (some nb)) (.string nm) false).run Tryz.prog W= .ok a W
def bgSetO (n:Bn) (ps:List (List UInt8)) (nm:ByteArray) (at_:Int) (X0:Bs→Ho ⊕ Int) (s:Bs):Option Ho×Bs:=
 match s.left with
 |0=>(some ⟨2,0,at_⟩,s)
 |m+1=>match X0 {s with left:=m}with
  | .inl h=>(some h,{s with left:=m})
  | .inr x=>(none,setB n ps {s with left:=m} nm x)
theorem put_2 {p x:Nat} {A:Option Addr} {c:Nat} {v0:Value} {X0:Bs→Ho ⊕ Int} (ho:C.Ok) (hT:C.T≤lo) (hpg:PgAt C w) (hp:Bx lo hi w p 69 #[.pointer (some ⟨C.P,0,none⟩)]) (hq:Bx lo hi w q 51 (bgStC 2 nm A2 A3 A4 A5 l2 c2 l3 c3 l4 c4 l5 c5 at_))
  (hx:Bx lo hi w x 276 #[.slice A 1 c]) (hrow:RowF lo hi w A c [v0]) (hs:nm.size≤9223372036854775807) (hin:InSc C.n ps nm) (hv0:ValP C ps v0 X0 lo hi w):
  DoP C ps (.func (.func 176) #[] #[.pointer (some ⟨p,0,none⟩),.pointer (some ⟨q,0,none⟩),.pointer (some ⟨x,0,none⟩)]) (fun s h t=>(h,t)=bgSetO C.n ps nm at_ X0 s) lo hi w:=by
 obtain⟨g1,caps1,rfl,hg1,hcall1⟩:=hv0
 refine⟨_,_,rfl,enters_of Tryz.func176 (by kernel_rfl) rfl,fun W oc nb s h t hW0 hD=>?_⟩
 have hW:=hW0.fr0 ho (Fr.refl NoT W).drew
 obtain⟨b,rfl,hb1,hb2,_⟩:=hrow.2.2 (by simp)
 have HS:=hdq (fun W' t (h':RunAt C lo hi w W' ps oc nb t)=>h'.cts ho hT hpg hp hq (i:=6) rfl)
 have HC:=hdq (fun W' t (h':RunAt C lo hi w W' ps oc nb t)=>cost_any h'.st ho at_)
 have HC1:=hdq (fun W' t (h':RunAt C lo hi w W' ps oc nb t)=>hcall1 W' oc nb t h')
 have HK:=hdq (fun W' t (h':RunAt C lo hi w W' ps oc nb t)=>(h'.bx ho hT hq).cell 0)
 have HSC:=hdq (fun W' t (h':RunAt C lo hi w W' ps oc nb t)=>scalar_at h' hs hin)
 have HP:=hdq (fun W' t a (h':RunAt C lo hi w W' ps oc nb t) (hl:(Instr.lookup 75 (.map (some nb)) (.string nm) false).run Tryz.prog W'= .ok a W')=>(show PuS q x b nb nm (some ⟨b,0,none⟩) 1 c (.func (.func g1) #[] caps1) a W' from⟨(h'.bx ho hT hq).cell 1,(h'.bx ho hT hx).cell 0,by
  obtain⟨b',e,_,_,hc⟩:=(hrow.run ho hT h').2.2 (by simp)
  obtain rfl:b=b':=by simpa using e
  exact hc 0 _ rfl,hl⟩))
 have HF0:=hdq (fun W' W2 t (h':RunAt C lo hi w W' ps oc nb t) (hf:Fr NoT W' W2)=>h'.fr0 ho hf)
 have hc1:1≤c:=hrow.1
 have HO:=hdq ho
 have HW:=hdq hW
 unfold Enters at hg1
 show Calls Tryz.prog 176 #[.map (some nb),.pointer (some ⟨p,0,none⟩),.pointer (some ⟨q,0,none⟩),.pointer (some ⟨x,0,none⟩)] W (DoQ C oc h t W)
 have HD:=hdq hD
 obtain⟨R,hR⟩:=nmq C.R
 rw[←hR]at HC
 clear hcall1 hq hp hx hrow hT hs hin hW hW0 hpg hD ho hb1 hb2
 go_enter Tryz.func176,Tryz.ntmps176
 go_wp2_with fail
 refine wp_region_E (CtS C p q 6 at_) (fun _=>true) (by kernel_rfl) (HS.out _ _ HW.out) (fun hHeld=>?_)
 refine wpE_pu 4 ?_
 try simp only[Act.put,List.setIfInBounds_toArray,List.set_cons_zero,List.set_cons_succ]
 refine wpE_take 0 (v:=?_) rfl (by kernel_rfl) (fun _ _ _ h=>h) hHeld (by rfl) ?_ ?_;rotate_left
 ·intro wz hSz;(try dsimp only[CtS,PuS]at hSz);go_simp;try with_reducible rfl
 try simp only[Act.put,List.setIfInBounds_toArray,List.set_cons_zero,List.set_cons_succ]
 refine wpE_take 5 (v:=?_) rfl (by kernel_rfl) (fun _ _ _ h=>h) hHeld (by rfl) ?_ ?_;rotate_left
 ·intro wz hSz;(try dsimp only[CtS,PuS]at hSz);go_simp;try with_reducible rfl
 try simp only[Act.put,List.setIfInBounds_toArray,List.set_cons_zero,List.set_cons_succ]
 refine wpE_pu 1 ?_
 try simp only[Act.put,List.setIfInBounds_toArray,List.set_cons_zero,List.set_cons_succ]
 refine wpE_pu 2 ?_
 try simp only[Act.put,List.setIfInBounds_toArray,List.set_cons_zero,List.set_cons_succ]
 refine wpE_take 3 (v:=?_) rfl (by kernel_rfl) (fun _ _ _ h=>h) hHeld (by rfl) ?_ ?_;rotate_left
 ·intro wz hSz;(try dsimp only[CtS,PuS]at hSz);go_simp;try with_reducible rfl
 try simp only[Act.put,List.setIfInBounds_toArray,List.set_cons_zero,List.set_cons_succ]
 refine wpE_next 6 rfl (by kernel_rfl) (fun KK hK=>?_)
 go_simp
 go_at_call 110
 rw[←hR]
 refine(HC.out _ _ HW.out).mono ?_
 rintro e w1 (⟨h0,rfl,rfl⟩|⟨m,hm,rfl,hs1,hf1⟩)
 ·have hr2:=HD.out
  unfold bgSetO at hr2
  simp only[h0]at hr2
  obtain⟨rfl,rfl⟩:=Prod.mk.inj hr2
  exact⟨rfl,rfl,HW.out.st,(Fr.refl _ _).drew⟩
 have hr1:RunAt C lo hi w w1 ps oc nb {s with left:=m}:=HW.out.next hf1.toO hs1 (by show m≤s.left;omega)
 have hd:=HD.out
 unfold bgSetO at hd
 simp only[hm]at hd
 have H1:=hdq hr1
 have HF1:=hdq (show Fr (C.MutO oc) W w1 from((Fr.refl _ _).drew.trans hf1).toO)
 have HD1:=hdq hd
 have c3:=HK.out _ _ hr1
 clear hs1 hf1 hr1 hm HC hR hHeld HD hd
 try dsimp only
 refine hK _ _ (fun _ _=>HS.out _ _ H1.out) ?_
 clear hK KK
 try simp only[Act.put,List.setIfInBounds_toArray,List.set_cons_zero,List.set_cons_succ]
 refine wpE_done (by kernel_rfl) ?_
 go_wp2_with fail
 have h1d:=HF0.out _ _ _ H1.out (Fr.refl NoT w1).drew
 obtain⟨b2,o2,hlk,hcell,hset,hmut⟩:=HSC.out _ _ h1d
 have HL:=hdq hlk
 have HCE:=hdq hcell
 have HSET:=hdq hset
 have HM:=hdq hmut.1
 refine wp_region_E (PuS q x b nb nm (some ⟨b,0,none⟩) 1 c (.func (.func g1) #[] caps1) (.pointer (some ⟨b2,o2,none⟩))) (fun i=>decide (i < 9)) (by kernel_rfl) (HP.out _ _ _ h1d (hlk _ (Fr.refl _ _))) (fun hHeld=>?_)
 have H1D:=hdq h1d
 clear h1d hlk hcell hset hmut c3
 refine wpE_pu 0 ?_
 try simp only[Act.put,List.setIfInBounds_toArray,List.set_cons_zero,List.set_cons_succ]
 refine wpE_pu 1 ?_
 try simp only[Act.put,List.setIfInBounds_toArray,List.set_cons_zero,List.set_cons_succ]
 refine wpE_pu 7 ?_
 try simp only[Act.put,List.setIfInBounds_toArray,List.set_cons_zero,List.set_cons_succ]
 refine wpE_take 2 (v:=?_) rfl (by kernel_rfl) (fun _ _ _ h=>h) hHeld (by rfl) ?_ ?_;rotate_left
 ·intro wz hSz;(try dsimp only[CtS,PuS]at hSz);go_simp;try with_reducible rfl
 try simp only[Act.put,List.setIfInBounds_toArray,List.set_cons_zero,List.set_cons_succ]
 refine wpE_take 4 (v:=?_) rfl (by kernel_rfl) (fun _ _ _ h=>h) hHeld (by rfl) ?_ ?_;rotate_left
 ·intro wz hSz;(try dsimp only[CtS,PuS]at hSz);go_simp;try with_reducible rfl
 try simp only[Act.put,List.setIfInBounds_toArray,List.set_cons_zero,List.set_cons_succ]
 refine wpE_take 3 (v:=?_) rfl (by kernel_rfl) (fun _ _ _ h=>h) hHeld (by rfl) ?_ ?_;rotate_left
 ·intro wz hSz;(try dsimp only[CtS,PuS]at hSz);go_simp;try with_reducible rfl
 try simp only[Act.put,List.setIfInBounds_toArray,List.set_cons_zero,List.set_cons_succ]
 refine wpE_pu 5 ?_
 try simp only[Act.put,List.setIfInBounds_toArray,List.set_cons_zero,List.set_cons_succ]
 refine wpE_take 6 (v:=?_) rfl (by kernel_rfl) (fun _ _ _ h=>h) hHeld (by rfl) ?_ ?_;rotate_left
 ·intro wz hSz;(try dsimp only[CtS,PuS]at hSz);go_simp;try with_reducible rfl
 try simp only[Act.put,List.setIfInBounds_toArray,List.set_cons_zero,List.set_cons_succ]
 refine wpE_next 8 rfl (by kernel_rfl) (fun KK hK=>?_)
 go_simp
 refine(HC1.out _ _ H1D.out).mono ?_
 rintro e w2 ⟨he,hf2⟩
 rcases hx0:X0 {s with left:=m}with ho0|a
 ·rw[hx0]at he
  obtain rfl:=he
  have hr3:=HD1.out
  simp only[hx0]at hr3
  obtain⟨rfl,rfl⟩:=Prod.mk.inj hr3
  exact⟨rfl,rfl,(HF0.out _ _ _ H1D.out hf2).st,HF1.out.trans ((Fr.refl NoT w1).drew.trans hf2).any⟩
 rw[hx0]at he
 obtain⟨rfl,ha⟩:=he
 have h2:=HF0.out _ _ _ H1D.out hf2
 obtain⟨z0,_,z1,z2⟩:=HCE.out _ _ h2.st
 have hset2:=HSET.out _ _ a HO.out h2.st ha
 have hr3:=HD1.out
 simp only[hx0]at hr3
 obtain⟨rfl,rfl⟩:=Prod.mk.inj hr3
 have hfs:Fr (C.MutO oc) W (w2.setCell ⟨b2,o2,none⟩ (.int .i64 a)):=(HF1.out.trans ((Fr.refl NoT w1).drew.trans hf2).any).setCell (p:=⟨b2,o2,none⟩) (.inl HM.out) _
 have HQ:=hdq (show DoQ C oc none (setB C.n ps {s with left:=m} nm a) W (.returned (.tuple #[])) (w2.setCell ⟨b2,o2,none⟩ (.int .i64 a))from⟨rfl,hset2,hfs⟩)
 have HP2:=hdq (HP.out _ _ _ h2 (HL.out _ hf2.any))
 clear hr3 hset2 hfs h2 hf2 ha HD1 hx0
 try dsimp only
 refine hK _ _ (fun _ _=>HP2.out) ?_
 clear hK KK
 try simp only[Act.put,List.setIfInBounds_toArray,List.set_cons_zero,List.set_cons_succ]
 refine wpE_pu 9 ?_
 try simp only[Act.put,List.setIfInBounds_toArray,List.set_cons_zero,List.set_cons_succ]
 refine wpE_next 10 rfl (by kernel_rfl) (fun KK hK=>?_)
 go_simp
 refine hK _ _ (fun h=>absurd h (by decide)) ?_
 clear hK KK
 try simp only[Act.put,List.setIfInBounds_toArray,List.set_cons_zero,List.set_cons_succ]
 refine wpE_done (by kernel_rfl) ?_
 go_wp2_with fail
 go_end0
 exact HQ.out
end
end Go.Proofs.YtfomomaomggpbaaGreatDoor

namespace Go.Proofs.YtfomomaomggpbaaGreatDoor
open Go.RowKit Go.Shelf

abbrev RowP:=Nat→Value→Nat→Nat→World→Prop
def RwS (C:BgC) (P:RowP):Prop:=∀i v lo hi w w',Later C lo hi w w'→P i v lo hi w→P i v lo hi w'
structure MkL (C:BgC) (W0 w:World) (g:Nat) (ty e:TypeId) (v:Value) (vs:List Value) (P:RowP):Prop where
 fr:Fr NoT W0 w
 bk:Bk w g ty #[v]
 gl:W0.heap.size≤g
 row:w.ownsRow (g+1) e 1 v vs.length vs
 vals:∀(i:Nat) u,vs[i]?=some u→∃lo hi,P i u lo hi w∧W0.heap.size≤lo∧hi≤w.heap.size∧(g < lo∨hi≤g)∧∀b,v.ownBlock=some b→b < lo∨hi≤b
theorem ownsRow_fr9 {w w':World} {B n size:Nat} {t:TypeId} {v:Value} {cs:List Value} (h:w.ownsRow B t size v n cs) (hf:Fr NoT w w'):w'.ownsRow B t size v n cs:=by
 refine⟨h.1,h.2.imp id ?_⟩
 rintro⟨g,cap,cur,e1,e2,e3,e4⟩
 exact⟨g,cap,cur,e1,e2,(hf.block g (Bk.lt (t:=t) (cs:=cur) e3) id).trans e3,e4⟩
section
variable {C:BgC} {W0 w w' w5 w7:World} {g:Nat} {ty e:TypeId} {v v' u:Value} {vs:List Value} {P:RowP}
theorem MkL.fr0 (h:MkL C W0 w g ty e v vs P) (hP:RwS C P) (hT:C.T≤W0.heap.size) (hf:Fr NoT w w'):MkL C W0 w' g ty e v vs P:=
 ⟨h.fr.trans hf,h.bk.fr0 hf,h.gl,ownsRow_fr9 h.row hf,fun i u hu=>by
  obtain⟨lo,hi,h1,h2,h3,h4⟩:=h.vals i u hu
  exact⟨lo,hi,hP _ _ _ _ _ _ (Later.of0 hf h3 (leq9 hT h.fr.size)) h1,h2,leq9 h3 hf.size,h4⟩⟩
theorem MkL.step (h:MkL C W0 w g ty e v vs P) (hP:RwS C P) (hT:C.T≤W0.heap.size) (hf5:Fr NoT w w5) (hu:P vs.length u w.heap.size w5.heap.size w5) (hrow:w7.ownsRow (g+1) e 1 v' (vs.length+1) (vs++ [u])) (hg:(w5.alloc (.cells #[u] e)).grownBy w7 v.ownBlock) (hb:v'.ownBlock=v.ownBlock∨v'.ownBlock=some (w5.heap.size+1)):
  MkL C W0 (w7.setCell ⟨g,0,none⟩ v') g ty e v' (vs++ [u]) P:=by
 have hTw:C.T≤w.heap.size:=leq9 hT h.fr.size
 have hgw:=h.bk.lt
 have hf6:Fr NoT w (w5.alloc (.cells #[u] e)):=hf5.alloc _
 have hs6:=hf6.size
 have hs7:=hg.size
 simp only[World.size_alloc]at hs6 hs7
 have h5:=hf5.size
 have hvb:∀b,v.ownBlock=some b→g+1≤b∧b < w.heap.size:=fun b hb=>h.row.lt b hb
 have hfr7:Fr NoT W0 w7:=by
  have h6:=h.fr.trans hf6
  refine⟨hg.os.trans h6.os,hg.tape.trans h6.tape,hg.output.trans h6.output,leq9 h6.size hg.size,fun i hi hn=>(hg.block i (ltq hi h6.size) fun e=>?_).trans (h6.block i hi hn)⟩
  have:=hvb i e.symm
  have:=h.gl
  omega
 -- blocks that do not turn
 have hfar:∀i,i < w.heap.size→i≠g→v.ownBlock≠some i→(w7.setCell ⟨g,0,none⟩ v').heap[i]?=w.heap[i]?:=fun i hi h1 h2=>
  (Below.heap_setCell w7 _ _ i fun e=>h1 (by have e:i=g:=e;exact e)).trans ((hg.block i (by simp;omega) fun e=>h2 e.symm).trans (hf6.block i hi id))
 have hfar5:∀i,i < w5.heap.size→i≠g→v.ownBlock≠some i→(w7.setCell ⟨g,0,none⟩ v').heap[i]?=w5.heap[i]?:=fun i hi h1 h2=>
  (Below.heap_setCell w7 _ _ i fun e=>h1 (by have e:i=g:=e;exact e)).trans ((hg.block i (by simp;omega) fun e=>h2 e.symm).trans (Below.heap_alloc w5 _ i hi))
 have hbg:Bk w7 g ty #[v]:=(hg.block g (by simp;omega) fun e=>by have:=hvb g e.symm;omega).trans (h.bk.fr0 hf6)
 have hv'b:∀b,v'.ownBlock=some b→v.ownBlock=some b∨b=w5.heap.size+1:=fun b e=>by
  rcases hb with hb|hb
  ·exact .inl (by rw[←hb];exact e)
  ·rw[hb]at e;exact .inr (Option.some.inj e).symm
 have hv'g:v'.ownBlock≠some g:=fun e=>by
  rcases hv'b g e with e|e
  ·have:=hvb g e;omega
  ·omega
 refine⟨hfr7.high h.gl 0 _,by simpa using hbg.set_ 0 v',h.gl,?_,fun i y hy=>?_⟩
 ·have hl:(vs++ [u]).length =vs.length+1:=by simp
  rw[hl]
  refine⟨hrow.1,hrow.2.imp id ?_⟩
  rintro⟨g',cap,cur,e1,e2,e3,e4⟩
  exact⟨g',cap,cur,e1,e2,(Below.heap_setCell w7 _ _ g' fun e=>by have e:g'=g:=e;omega).trans e3,e4⟩
 ·by_cases hi:i < vs.length
  ·rw[List.getElem?_append_left hi]at hy
   obtain⟨lo,hi',h1,h2,h3,h4,h5'⟩:=h.vals i y hy
   refine⟨lo,hi',hP _ _ _ _ _ _ ⟨⟨by simp;omega,by simp;omega⟩,fun j hj hm=>?_⟩ h1,h2,by simp;omega,h4,fun b hb=>?_⟩
   ·have hgl:=h.gl
    refine hfar j (by omega) (by omega) fun e=>?_
    have:=h5' j e
    have:=hvb j e
    omega
   ·rcases hv'b b hb with e|e
    ·exact h5' b e
    ·right;omega
  ·rw[List.getElem?_append_right (by omega)]at hy
   have hi0:i - vs.length=0:=by
    have:=(List.getElem?_eq_some_iff.1 hy).1
    simp at this
    omega
   rw[hi0]at hy
   simp at hy
   subst hy
   obtain rfl:i=vs.length:=by omega
   refine⟨w.heap.size,w5.heap.size,hP _ _ _ _ _ _ ⟨⟨by simp;omega,by simp;omega⟩,fun j hj hm=>?_⟩ hu,h.fr.size,by simp;omega,.inl hgw,fun b hb=>?_⟩
   ·have hgl:=h.gl
    refine hfar5 j (by omega) (by omega) fun e=>?_
    have:=hvb j e
    omega
   ·rcases hv'b b hb with e|e
    ·exact .inl (hvb b e).2
    ·right;omega
theorem MkL.rowF (h:MkL C W0 w g ty e v vs P):∃A c,v= .slice A vs.length c∧RowF W0.heap.size w.heap.size w A c vs:=by
 rcases h.row.2 with⟨e,h0⟩|⟨b,cap,cur,e,h1,h2,h3,h4,_⟩
 ·rw[h0]
  exact⟨none,0,e,by rw[h0];exact lrq _,by omega,fun hp=>by omega⟩
 ·refine⟨some ⟨b,0,none⟩,cap,e,h3,by unfold maxLen at h4;omega,fun hp=>⟨b,rfl,?_,?_,fun i u hu=>?_⟩⟩
  ·have:=h.gl;omega
  ·exact Bk.lt (t:=_) (cs:=cur) h2
  ·have h9:=h.row.cells (g:=b) (by rw[e];rfl) i u hu
   have ea:(⟨b,0,none⟩:Addr).add i=⟨b,i,none⟩:=by unfold Addr.add;split<;>simp_all
   rw[ea]at h9
   exact h9
theorem MkL.zero (hw:Fr NoT W0 w) (hg:W0.heap.size≤g) (hb:Bk w g ty #[.slice none 0 0]):MkL C W0 w g ty e (.slice none 0 0) [] P:=
 ⟨hw,hb,hg,World.ownsRow_nil _ _ _ _,fun i u hu=>by simp at hu⟩
end
end Go.Proofs.YtfomomaomggpbaaGreatDoor

namespace Go.Proofs.YtfomomaomggpbaaGreatDoor
open Go.RowKit Go.Shelf

def askO (X:Bs→Tru) (e:Ho) (s:Bs):Option Ho×Bs:=
 match X s s.left with
 |(.inl h,l)=>(some h,{s with left:=l})
 |(.inr true,l)=>(none,{s with left:=l})
 |(.inr false,l)=>(some e,{s with left:=l})
def ifD (X:Bs→Tru) (D1 D2:Bs→Option Ho→Bs→Prop) (s:Bs) (h:Option Ho) (t:Bs):Prop:=
 match X s s.left with
 |(.inl h',l)=>h=some h'∧t={s with left:=l}
 |(.inr true,l)=>D1 {s with left:=l} h t
 |(.inr false,l)=>D2 {s with left:=l} h t
def skipO (at_:Int) (s:Bs):Option Ho×Bs:=
 match s.left with
 |0=>(some ⟨2,0,at_⟩,s)
 |m+1=>(none,{s with left:=m})
inductive LpR (X:Bs→Tru) (D:Bs→Option Ho→Bs→Prop) (at_:Int):Bs→Option Ho→Bs→Prop
 |ask {s h l}:X s s.left=(.inl h,l)→LpR X D at_ s (some h) {s with left:=l}
 |done {s l}:X s s.left=(.inr false,l)→LpR X D at_ s none {s with left:=l}
 |leave {s l h t}:X s s.left=(.inr true,l)→D {s with left:=l} (some h) t→LpR X D at_ s (some h) t
 |out {s l t}:X s s.left=(.inr true,l)→D {s with left:=l} none t→t.left=0→LpR X D at_ s (some ⟨2,0,at_⟩) t
 |again {s l t m h u}:X s s.left=(.inr true,l)→D {s with left:=l} none t→t.left=m+1→LpR X D at_ {t with left:=m} h u→LpR X D at_ s h u
def lpD (X:Bs→Tru) (D:Bs→Option Ho→Bs→Prop) (at_:Int) (s:Bs) (h:Option Ho) (t:Bs):Prop:=(s.left=0∧h=some ⟨2,0,at_⟩∧t=s)∨∃m,s.left=m+1∧LpR X D at_ {s with left:=m} h t
section
variable {C:BgC} {ps:List (List UInt8)} {w:World} {lo hi q:Nat} {k:Int} {nm:ByteArray} {at_:Int}
theorem ask_1 {x1 y:Nat} {v1:Value} {X:Bs→Tru} {e:Ho} (ho:C.Ok) (hT:C.T≤lo) (h1:Bx lo hi w x1 223 #[v1]) (h2:Bx lo hi w y 85 #[.int .u8 e.kind,.int .u8 e.wrong,.int .i64 e.at_]) (hv1:TruP C ps v1 X lo hi w):
  DoP C ps (.func (.func 178) #[] #[.pointer (some ⟨x1,0,none⟩),.pointer (some ⟨y,0,none⟩)]) (fun s h t=>(h,t)=askO X e s) lo hi w:=by
 obtain⟨g1,caps1,rfl,hg1,hcall1⟩:=hv1
 refine⟨_,_,rfl,enters_of Tryz.func178 (by kernel_rfl) rfl,fun W oc nb s h t hW hD=>?_⟩
 have c1:=(hW.bx ho hT h1).cell 0
 simp only[List.getElem?_toArray,List.getElem?_cons_succ,List.getElem?_cons_zero]at c1
 have hy:=hW.bx ho hT h2
 obtain⟨ek,ew,ea⟩:=e
 simp only at hy
 have HY:=hdq (fun w1 (hf:Fr (fun b=>b=C.R) W w1)=>hy.fr hf (fun e=>new_ok ho (leq9 hT h2.2.1) (.inl e)))
 have HC1:=hdq (hcall1 W oc nb s hW)
 unfold Enters at hg1
 show Calls Tryz.prog 178 #[.map (some nb),.pointer (some ⟨x1,0,none⟩),.pointer (some ⟨y,0,none⟩)] W (DoQ C oc h t W)
 clear hcall1 h1 h2 hT ho hW hy
 unfold askO at hD
 rcases hx:X s s.left with⟨h0|(_|_),l⟩
 all_goals
  rw[hx]at hD HC1
  obtain⟨rfl,rfl⟩:=Prod.mk.inj hD
  clear hD hx
  go_enter Tryz.func178,Tryz.ntmps178
  go_wp2_with fail
  refine HC1.out.mono ?_
  rintro e w1 ⟨rfl,hs1,hf1⟩
 ·exact⟨rfl,rfl,hs1,hf1.toO⟩
 ·have hy:=HY.out _ hf1
  have y0:=hy.cell 0
  have y1:=hy.cell 1
  have y2:=hy.cell 2
  simp only[List.getElem?_toArray,List.getElem?_cons_succ,List.getElem?_cons_zero]at y0 y1 y2
  have HQ:=hdq (show DoQ C oc (some ⟨ek,ew,ea⟩) {s with left:=l} W (endE ⟨ek,ew,ea⟩) w1 from⟨rfl,hs1,hf1.toO⟩)
  clear hs1 hf1 hy HC1 HY c1
  unfold truEnd
  go_wp2_with fail
  exact⟨rfl,HQ.out⟩
 ·have HQ:=hdq (show DoQ C oc none {s with left:=l} W (.returned (.tuple #[])) w1 from⟨rfl,hs1,hf1.toO⟩)
  clear hs1 hf1 HC1 HY c1
  unfold truEnd
  go_wp2_with fail
  go_end0
  exact HQ.out
theorem one_1 {x1 x2 x3:Nat} {v1 v2 v3:Value} {X:Bs→Tru} {D1 D2:Bs→Option Ho→Bs→Prop} (ho:C.Ok) (hT:C.T≤lo) (h1:Bx lo hi w x1 223 #[v1]) (h2:Bx lo hi w x2 80 #[v2]) (h3:Bx lo hi w x3 80 #[v3])
  (hv1:TruP C ps v1 X lo hi w) (hv2:DoP C ps v2 D1 lo hi w) (hv3:DoP C ps v3 D2 lo hi w) (hX:∀s l,(X s l).2 ≤l):
  DoP C ps (.func (.func 108) #[] #[.pointer (some ⟨x1,0,none⟩),.pointer (some ⟨x2,0,none⟩),.pointer (some ⟨x3,0,none⟩)]) (ifD X D1 D2) lo hi w:=by
 obtain⟨g1,caps1,rfl,hg1,hcall1⟩:=hv1
 obtain⟨g2,caps2,rfl,hg2,hcall2⟩:=hv2
 obtain⟨g3,caps3,rfl,hg3,hcall3⟩:=hv3
 refine⟨_,_,rfl,enters_of Tryz.func108 (by kernel_rfl) rfl,fun W oc nb s h t hW hD=>?_⟩
 have c1:=(hW.bx ho hT h1).cell 0
 simp only[List.getElem?_toArray,List.getElem?_cons_succ,List.getElem?_cons_zero]at c1
 have HB2:=hdq (fun W' t (h':RunAt C lo hi w W' ps oc nb t)=>(show W'.cell? ⟨x2,0,none⟩=some (.func (.func g2) #[] caps2)from(h'.bx ho hT h2).cell 0))
 have HB3:=hdq (fun W' t (h':RunAt C lo hi w W' ps oc nb t)=>(show W'.cell? ⟨x3,0,none⟩=some (.func (.func g3) #[] caps3)from(h'.bx ho hT h3).cell 0))
 have HC1:=hdq (hcall1 W oc nb s hW)
 have HC2:=hdq (fun W' s h t (h':RunAt C lo hi w W' ps oc nb s) hd=>hcall2 W' oc nb s h t h' hd)
 have HC3:=hdq (fun W' s h t (h':RunAt C lo hi w W' ps oc nb s) hd=>hcall3 W' oc nb s h t h' hd)
 have HW:=hdq hW
 have hXl:=hX s s.left
 unfold Enters at hg1 hg2 hg3
 show Calls Tryz.prog 108 #[.map (some nb),.pointer (some ⟨x1,0,none⟩),.pointer (some ⟨x2,0,none⟩),.pointer (some ⟨x3,0,none⟩)] W (DoQ C oc h t W)
 clear hcall1 hcall2 hcall3 h1 h2 h3 hT ho hW hX
 unfold ifD at hD
 rcases hx:X s s.left with⟨h0|(_|_),l⟩
 all_goals
  rw[hx]at hD HC1 hXl
  have HXL:=hdq (show l≤s.left from hXl)
  clear hx hXl
  have HD:=hdq hD
  clear hD
  go_enter Tryz.func108,Tryz.ntmps108
  go_wp2_with fail
  refine HC1.out.mono ?_
  rintro e w1 ⟨rfl,hs1,hf1⟩
 ·obtain⟨rfl,rfl⟩:=HD.out
  exact⟨rfl,rfl,hs1,hf1.toO⟩
 ·have hr1:=HW.out.next hf1.toO hs1 HXL.out
  have c3:=HB3.out _ _ hr1
  have HC:=hdq (HC3.out _ _ _ _ hr1 HD.out)
  have HF:=hdq (show Fr (C.MutO oc) W w1 from hf1.toO)
  clear hs1 hf1 hr1 HC1 c1 HD
  unfold truEnd
  go_wp2_with fail
  refine HC.out.mono ?_
  rintro e w2 ⟨rfl,hs2,hf2⟩
  have HQ:=hdq (show DoQ C oc h t W (doEnd h) w2 from⟨rfl,hs2,HF.out.trans hf2⟩)
  clear hs2 hf2
  cases h with
  |some h=>exact⟨rfl,HQ.out⟩
  |none=>
   unfold doEnd
   go_wp2_with fail
   go_end0
   exact HQ.out
 ·have hr1:=HW.out.next hf1.toO hs1 HXL.out
  have c3:=HB2.out _ _ hr1
  have HC:=hdq (HC2.out _ _ _ _ hr1 HD.out)
  have HF:=hdq (show Fr (C.MutO oc) W w1 from hf1.toO)
  clear hs1 hf1 hr1 HC1 c1 HD
  unfold truEnd
  go_wp2_with fail
  refine HC.out.mono ?_
  rintro e w2 ⟨rfl,hs2,hf2⟩
  have HQ:=hdq (show DoQ C oc h t W (doEnd h) w2 from⟨rfl,hs2,HF.out.trans hf2⟩)
  clear hs2 hf2
  cases h with
  |some h=>exact⟨rfl,HQ.out⟩
  |none=>
   unfold doEnd
   go_wp2_with fail
   go_end0
   exact HQ.out
theorem one_3 {p:Nat} {ty:TypeId} {cs:Array Value} (ho:C.Ok) (hT:C.T≤lo) (hpg:PgAt C w) (hp:Bx lo hi w p 69 #[.pointer (some ⟨C.P,0,none⟩)]) (hq:Bx lo hi w q ty cs) (h6:cs[6]?=some (.int .i64 at_)):
  DoP C ps (.func (.func 112) #[] #[.pointer (some ⟨p,0,none⟩),.pointer (some ⟨q,0,none⟩)]) (fun s h t=>(h,t)=skipO at_ s) lo hi w:=by
 refine⟨_,_,rfl,enters_of Tryz.func112 (by kernel_rfl) rfl,fun W oc nb s h t hW0 hD=>?_⟩
 have hW:=hW0.fr0 ho (Fr.refl NoT W).drew
 have HS:=hdq (fun W' t (h':RunAt C lo hi w W' ps oc nb t)=>h'.cts ho hT hpg hp hq (i:=6) h6)
 have HC:=hdq (cost_any hW.st ho at_)
 have HW:=hdq hW
 show Calls Tryz.prog 112 #[.map (some nb),.pointer (some ⟨p,0,none⟩),.pointer (some ⟨q,0,none⟩)] W (DoQ C oc h t W)
 have HD:=hdq hD
 obtain⟨R,hR⟩:=nmq C.R
 rw[←hR]at HC
 clear hq hp hT hW hW0 hpg hD ho h6
 go_enter Tryz.func112,Tryz.ntmps112
 go_wp2_with fail
 refine wp_region_E (CtS C p q 6 at_) (fun _=>true) (by kernel_rfl) (HS.out _ _ HW.out) (fun hHeld=>?_)
 refine wpE_pu 4 ?_
 try simp only[Act.put,List.setIfInBounds_toArray,List.set_cons_zero,List.set_cons_succ]
 refine wpE_tv 0 hHeld ?_
 try simp only[Act.put,List.setIfInBounds_toArray,List.set_cons_zero,List.set_cons_succ]
 refine wpE_tv 5 hHeld ?_
 try simp only[Act.put,List.setIfInBounds_toArray,List.set_cons_zero,List.set_cons_succ]
 refine wpE_pu 1 ?_
 try simp only[Act.put,List.setIfInBounds_toArray,List.set_cons_zero,List.set_cons_succ]
 refine wpE_pu 2 ?_
 try simp only[Act.put,List.setIfInBounds_toArray,List.set_cons_zero,List.set_cons_succ]
 refine wpE_tv 3 hHeld ?_
 try simp only[Act.put,List.setIfInBounds_toArray,List.set_cons_zero,List.set_cons_succ]
 refine wpE_next 6 rfl (by kernel_rfl) (fun KK hK=>?_)
 go_simp
 go_at_call 110
 rw[←hR]
 refine HC.out.mono ?_
 rintro e w1 (⟨h0,rfl,rfl⟩|⟨m,hm,rfl,hs1,hf1⟩)
 ·have hr2:=HD.out
  unfold skipO at hr2
  simp only[h0]at hr2
  obtain⟨rfl,rfl⟩:=Prod.mk.inj hr2
  exact⟨rfl,rfl,HW.out.st,(Fr.refl _ _).drew⟩
 have hr1:RunAt C lo hi w w1 ps oc nb {s with left:=m}:=HW.out.next hf1.toO hs1 (by show m≤s.left;omega)
 have hd:=HD.out
 unfold skipO at hd
 simp only[hm]at hd
 obtain⟨rfl,rfl⟩:=Prod.mk.inj hd
 have HQ:=hdq (show DoQ C oc none {s with left:=m} W (.returned (.tuple #[])) w1 from⟨rfl,hs1,((Fr.refl _ _).drew.trans hf1).toO⟩)
 have HH:=hdq (HS.out _ _ hr1)
 clear hs1 hf1 hr1 hm HC hHeld HD hd
 try dsimp only
 refine hK _ _ (fun _ _=>HH.out) ?_
 clear hK KK
 try simp only[Act.put,List.setIfInBounds_toArray,List.set_cons_zero,List.set_cons_succ]
 refine wpE_done (by kernel_rfl) ?_
 go_wp2_with fail
 go_end0
 exact HQ.out
end
end Go.Proofs.YtfomomaomggpbaaGreatDoor

namespace Go.Proofs.YtfomomaomggpbaaGreatDoor
open Go.RowKit Go.Shelf

def bgLeft (R:Nat) (w:World):Nat:=match w.cell? ⟨R,6,none⟩with
 |some (.int _ n)=>n.toNat
 |_=>0
theorem BgSt.leftIs {C:BgC} {oc:List Nat} {s:Bs} {w:World} (h:BgSt C oc s w):bgLeft C.R w=s.left:=by
 obtain⟨As,cs,_,hb⟩:=h.run
 have c6:=hb.cell 6
 simp only[runV,List.getElem?_toArray,List.getElem?_cons_succ,List.getElem?_cons_zero]at c6
 unfold bgLeft
 rw[c6]
 simp
section
variable {C:BgC} {ps:List (List UInt8)} {w:World} {lo hi q:Nat} {k:Int} {nm:ByteArray} {at_:Int}
theorem one_2 {p x1 x2:Nat} {ty:TypeId} {cs:Array Value} {v1 v2:Value} {X:Bs→Tru} {D:Bs→Option Ho→Bs→Prop} (ho:C.Ok) (hT:C.T≤lo) (hpg:PgAt C w) (hp:Bx lo hi w p 69 #[.pointer (some ⟨C.P,0,none⟩)]) (hq:Bx lo hi w q ty cs) (h6:cs[6]?=some (.int .i64 at_)) (h1:Bx lo hi w x1 223 #[v1]) (h2:Bx lo hi w x2 80 #[v2])
  (hv1:TruP C ps v1 X lo hi w) (hv2:DoP C ps v2 D lo hi w) (hX:∀s l,(X s l).2 ≤l) (hDl:∀s h t,D s h t→t.left≤s.left):
  DoP C ps (.func (.func 109) #[] #[.pointer (some ⟨p,0,none⟩),.pointer (some ⟨q,0,none⟩),.pointer (some ⟨x1,0,none⟩),.pointer (some ⟨x2,0,none⟩)]) (lpD X D at_) lo hi w:=by
 obtain⟨g1,caps1,rfl,hg1,hcall1⟩:=hv1
 obtain⟨g2,caps2,rfl,hg2,hcall2⟩:=hv2
 refine⟨_,_,rfl,enters_of Tryz.func109 (by kernel_rfl) rfl,fun W oc nb s h t hW0 hD=>?_⟩
 have hW:=hW0.fr0 ho (Fr.refl NoT W).drew
 have HS:=hdq (fun W' t (h':RunAt C lo hi w W' ps oc nb t)=>h'.cts ho hT hpg hp hq (i:=6) h6)
 have HC:=hdq (fun W' t (h':RunAt C lo hi w W' ps oc nb t)=>cost_any h'.st ho at_)
 have HB1:=hdq (fun W' t (h':RunAt C lo hi w W' ps oc nb t)=>(show W'.cell? ⟨x1,0,none⟩=some (.func (.func g1) #[] caps1)from(h'.bx ho hT h1).cell 0))
 have HB2:=hdq (fun W' t (h':RunAt C lo hi w W' ps oc nb t)=>(show W'.cell? ⟨x2,0,none⟩=some (.func (.func g2) #[] caps2)from(h'.bx ho hT h2).cell 0))
 have HC1:=hdq (fun W' s (h':RunAt C lo hi w W' ps oc nb s)=>hcall1 W' oc nb s h')
 have HC2:=hdq (fun W' s h t (h':RunAt C lo hi w W' ps oc nb s) hd=>hcall2 W' oc nb s h t h' hd)
 have HF0:=hdq (fun W' W2 t (h':RunAt C lo hi w W' ps oc nb t) (hf:Fr NoT W' W2)=>h'.fr0 ho hf)
 have HW:=hdq hW
 have HX:=hdq hX
 have HDL:=hdq hDl
 unfold Enters at hg1 hg2
 show Calls Tryz.prog 109 #[.map (some nb),.pointer (some ⟨p,0,none⟩),.pointer (some ⟨q,0,none⟩),.pointer (some ⟨x1,0,none⟩),.pointer (some ⟨x2,0,none⟩)] W (DoQ C oc h t W)
 have HD:=hdq hD
 obtain⟨R,hR⟩:=nmq C.R
 rw[←hR]at HC
 have HR:=hdq hR
 clear hcall1 hcall2 hq hp h1 h2 hT hW hW0 hpg hD ho h6 hX hDl hR
 go_enter Tryz.func109,Tryz.ntmps109
 go_wp2_with fail
 refine wp_region_E (CtS C p q 6 at_) (fun _=>true) (by kernel_rfl) (HS.out _ _ HW.out) (fun hHeld=>?_)
 refine wpE_pu 4 ?_
 try simp only[Act.put,List.setIfInBounds_toArray,List.set_cons_zero,List.set_cons_succ]
 refine wpE_tv 0 hHeld ?_
 try simp only[Act.put,List.setIfInBounds_toArray,List.set_cons_zero,List.set_cons_succ]
 refine wpE_tv 5 hHeld ?_
 try simp only[Act.put,List.setIfInBounds_toArray,List.set_cons_zero,List.set_cons_succ]
 refine wpE_pu 1 ?_
 try simp only[Act.put,List.setIfInBounds_toArray,List.set_cons_zero,List.set_cons_succ]
 refine wpE_pu 2 ?_
 try simp only[Act.put,List.setIfInBounds_toArray,List.set_cons_zero,List.set_cons_succ]
 refine wpE_tv 3 hHeld ?_
 try simp only[Act.put,List.setIfInBounds_toArray,List.set_cons_zero,List.set_cons_succ]
 refine wpE_next 6 rfl (by kernel_rfl) (fun KK hK=>?_)
 go_simp
 go_at_call 110
 rw[←HR.out]
 refine(HC.out _ _ HW.out).mono ?_
 rintro e w1 (⟨h0,rfl,rfl⟩|⟨m,hm,rfl,hs1,hf1⟩)
 ·rcases HD.out with⟨_,rfl,rfl⟩|⟨m,hm,_⟩
  ·exact⟨rfl,rfl,HW.out.st,(Fr.refl _ _).drew⟩
  ·omega
 have hr1:RunAt C lo hi w w1 ps oc nb {s with left:=m}:=HW.out.next hf1.toO hs1 (by show m≤s.left;omega)
 have hlp:LpR X D at_ {s with left:=m} h t:=by
  rcases HD.out with⟨h0,_,_⟩|⟨m',hm',hl⟩
  ·omega
  ·obtain rfl:m=m':=by omega
   exact hl
 have H1:=hdq hr1
 have HL:=hdq hlp
 have HF1:=hdq (show Fr (C.MutO oc) W w1 from((Fr.refl _ _).drew.trans hf1).toO)
 clear hs1 hf1 hr1 hm hHeld HD hlp HW
 try dsimp only
 refine hK _ _ (fun _ _=>HS.out _ _ H1.out) ?_
 clear hK KK
 try simp only[Act.put,List.setIfInBounds_toArray,List.set_cons_zero,List.set_cons_succ]
 refine wpE_done (by kernel_rfl) ?_
 go_wp2_with fail
 go_loopw [13] (fun _ wr=>∃s',Hid (RunAt C lo hi w wr ps oc nb s')∧Hid (LpR X D at_ s' h t)∧Hid (Fr (C.MutO oc) W wr)) (fun _ wr=>bgLeft C.R wr)
 case atStart=>exact⟨_,H1,HL,HF1⟩
 case round=>
  clear H1 HL HF1
  obtain⟨s1,H1,HL,HF1⟩:=hrel
  have c1:=HB1.out _ _ H1.out
  go_wp2_with fail
  refine(HC1.out _ _ H1.out).mono ?_
  rintro e w2 ⟨rfl,hs2,hf2⟩
  have hxl:=HX.out s1 s1.left
  rcases hx:X s1 s1.left with⟨h0|(_|_),l⟩
  all_goals
   rw[hx]at hs2 hxl
   have hxl:l≤s1.left:=hxl
   have hs2:BgSt C oc {s1 with left:=l} w2:=hs2
   have hr2:=H1.out.next hf2.toO hs2 hxl
   have hF2:=HF1.out.trans hf2.toO
  ·have hl:=HL.out
   cases hl with
   |ask hx'=>rw[hx]at hx';cases hx';exact⟨rfl,rfl,hs2,hF2⟩
   |done hx'=>rw[hx]at hx';cases hx'
   |leave hx' _=>rw[hx]at hx';cases hx'
   |out hx' _ _=>rw[hx]at hx';cases hx'
   |again hx' _ _ _=>rw[hx]at hx';cases hx'
  ·have hq:DoQ C oc h t W (.returned (.tuple #[])) w2:=by
    have hl:=HL.out
    cases hl with
    |ask hx'=>rw[hx]at hx';cases hx'
    |done hx'=>rw[hx]at hx';cases hx';exact⟨rfl,hs2,hF2⟩
    |leave hx' _=>rw[hx]at hx';cases hx'
    |out hx' _ _=>rw[hx]at hx';cases hx'
    |again hx' _ _ _=>rw[hx]at hx';cases hx'
   have HQ:=hdq hq
   clear hq hs2 hr2 hF2 hf2 hxl hx c1
   unfold truEnd
   go_wp2_with fail
   go_end0
   exact HQ.out
  ·have H2:=hdq hr2
   have HF2:=hdq hF2
   have HXE:=hdq hx
   have c2:=HB2.out _ _ hr2
   have HXL:=hdq hxl
   have hmid:∃h1 t1,D {s1 with left:=l} h1 t1∧((∃z,h1=some z∧h=some z∧t=t1)∨(h1=none∧t1.left=0∧h=some ⟨2,0,at_⟩∧t=t1)∨(h1=none∧∃m,t1.left=m+1∧LpR X D at_ {t1 with left:=m} h t)):=by
    have hl:=HL.out
    cases hl with
    |ask hx'=>rw[hx]at hx';cases hx'
    |done hx'=>rw[hx]at hx';cases hx'
    |leave hx' hd=>rw[hx]at hx';cases hx';exact⟨_,_,hd,.inl ⟨_,rfl,rfl,rfl⟩⟩
    |out hx' hd h0=>rw[hx]at hx';cases hx';exact⟨_,_,hd,.inr (.inl ⟨rfl,h0,rfl,rfl⟩)⟩
    |again hx' hd hm hl=>rw[hx]at hx';cases hx';exact⟨_,_,hd,.inr (.inr ⟨rfl,_,hm,hl⟩)⟩
   obtain⟨h1,t1,hd,hways⟩:=hmid
   have HC3:=hdq (HC2.out _ _ _ _ hr2 hd)
   have HTL:=hdq (HDL.out _ _ _ hd)
   have HWY:=hdq hways
   clear hs2 hr2 hF2 hf2 hxl hx c1 HL hways hd
   unfold truEnd
   go_wp2_with fail
   refine HC3.out.mono ?_
   rintro e w3 ⟨rfl,hs3,hf3⟩
   rcases HWY.out with⟨z,rfl,rfl,rfl⟩|hrest
   ·exact⟨rfl,rfl,hs3,HF2.out.trans hf3⟩
   obtain rfl:h1=none:=by rcases hrest with⟨e,_⟩|⟨e,_⟩<;>exact e
   have htl:t1.left≤l:=HTL.out
   have hr3:=HF0.out _ _ _ (H2.out.next hf3 hs3 htl) (Fr.refl NoT w3).drew
   have H3:=hdq hr3
   have HF3:=hdq (show Fr (C.MutO oc) W w3.drew from(HF2.out.trans hf3).drew)
   have HRE:=hdq hrest
   have HT1:=hdq htl
   clear hs3 hf3 hr3 hrest htl HWY HC3 HTL c2
   unfold doEnd
   go_wp2_with fail
   refine wp_region_E (CtS C p q 6 at_) (fun _=>true) (by kernel_rfl) (HS.out _ _ H3.out) (fun hHeld=>?_)
   refine wpE_pu 4 ?_
   try simp only[Act.put,List.setIfInBounds_toArray,List.set_cons_zero,List.set_cons_succ]
   refine wpE_tv 0 hHeld ?_
   try simp only[Act.put,List.setIfInBounds_toArray,List.set_cons_zero,List.set_cons_succ]
   refine wpE_tv 5 hHeld ?_
   try simp only[Act.put,List.setIfInBounds_toArray,List.set_cons_zero,List.set_cons_succ]
   refine wpE_pu 1 ?_
   try simp only[Act.put,List.setIfInBounds_toArray,List.set_cons_zero,List.set_cons_succ]
   refine wpE_pu 2 ?_
   try simp only[Act.put,List.setIfInBounds_toArray,List.set_cons_zero,List.set_cons_succ]
   refine wpE_tv 3 hHeld ?_
   try simp only[Act.put,List.setIfInBounds_toArray,List.set_cons_zero,List.set_cons_succ]
   refine wpE_next 6 rfl (by kernel_rfl) (fun KK hK=>?_)
   go_simp
   go_at_call 110
   rw[←HR.out]
   refine(HC.out _ _ H3.out).mono ?_
   rintro e w4 (⟨h0,rfl,rfl⟩|⟨m,hm,rfl,hs4,hf4⟩)
   ·rcases HRE.out with⟨_,_,rfl,rfl⟩|⟨_,m,hm,_⟩
    ·exact⟨rfl,rfl,H3.out.st,HF3.out⟩
    ·omega
   have hr4:RunAt C lo hi w w4 ps oc nb {t1 with left:=m}:=H3.out.next hf4.toO hs4 (by show m≤t1.left;omega)
   have hl4:LpR X D at_ {t1 with left:=m} h t:=by
    rcases HRE.out with⟨_,h0,_,_⟩|⟨_,m',hm',hl⟩
    ·omega
    ·obtain rfl:m=m':=by omega
     exact hl
   have HM:=hdq (show bgLeft C.R w4 < bgLeft C.R wr by
    rw[hr4.st.leftIs,H1.out.st.leftIs]
    have h1:=HXL.out
    have h2:=HT1.out
    show m < s1.left
    omega)
   have HF4:=hdq (HF3.out.trans hf4.toO)
   have H4:=hdq hr4
   have HL4:=hdq hl4
   clear hs4 hf4 hr4 hl4 hm HRE hHeld
   try dsimp only
   refine hK _ _ (fun _ _=>HS.out _ _ H4.out) ?_
   clear hK KK
   try simp only[Act.put,List.setIfInBounds_toArray,List.set_cons_zero,List.set_cons_succ]
   refine wpE_done (by kernel_rfl) ?_
   go_wp2_with fail
   go_roundw
   case rel=>exact⟨_,H4,HL4,HF4⟩
   case measure=>exact HM.out
end
end Go.Proofs.YtfomomaomggpbaaGreatDoor
