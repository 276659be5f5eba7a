/-
  big: truths: the closures of conditions. Printed by wip/gen_in/reg.py.
-/
import Derived.Test.YtfomomaomggpbaaGreatDoorJgBgLd
set_option linter.unusedVariables false
set_option linter.unusedSimpArgs false
set_option maxHeartbeats 3200000
set_option maxRecDepth 100000
namespace Go.Proofs.YtfomomaomggpbaaGreatDoor
open Go.RowKit Go.Shelf

def CtS (C:BgC) (p q i:Nat) (at_:Int) (W:World):Prop:=W.cell? ⟨p,0,none⟩=some (.pointer (some ⟨C.P,0,none⟩))∧W.cell? ⟨C.P,0,none⟩=some (.pointer (some ⟨C.R,0,none⟩))∧W.cell? ⟨q,i,none⟩=some (.int .i64 at_)
def AoS (q x1:Nat) (k:Int) (v1:Value) (W:World):Prop:=W.cell? ⟨q,0,none⟩=some (.int .u8 k)∧W.cell? ⟨x1,0,none⟩=some v1
def CpS (q x2:Nat) (k:Int) (v2:Value) (W:World):Prop:=W.cell? ⟨q,0,none⟩=some (.int .u8 k)∧W.cell? ⟨x2,0,none⟩=some v2
section
variable {C:BgC} {ps:List (List UInt8)} {w:World} {lo hi q:Nat} {k:Int} {at_:Int} {A A2:Option Addr} {l c l2 c2:Nat}
theorem Fr.toO {oc:List Nat} {W W':World} (h:Fr (fun b=>b=C.R) W W'):Fr (C.MutO oc) W W':=h.mono fun i _ e=> .inl (.inl e)
theorem PgAt.run {W:World} {oc:List Nat} {nb:Nat} {s:Bs} (hpg:PgAt C w) (ho:C.Ok) (h:RunAt C lo hi w W ps oc nb s):PgAt C W:=hpg.later ho h.lat
theorem tru_1 (ho:C.Ok) (hT:C.T≤lo) (hq:Bx lo hi w q 179 #[.int .u8 k,.slice A l c,.slice A2 l2 c2,.int .i64 at_]):TruP C ps (.func (.func 179) #[] #[.pointer (some ⟨q,0,none⟩)]) (fun _ l=>(.inr (k==1),l)) lo hi w:=by
 refine⟨_,_,rfl,enters_of Tryz.func179 (by kernel_rfl) rfl,fun W oc nb s h=>?_⟩
 have c0:=(h.bx ho hT hq).cell 0
 simp only[List.getElem?_toArray,List.getElem?_cons_succ,List.getElem?_cons_zero]at c0
 obtain⟨b,hb⟩:=nmq ((k==1))
 show Calls Tryz.prog 179 #[.map (some nb),.pointer (some ⟨q,0,none⟩)] W (TruQ C oc s (.inr (k==1),s.left) W)
 rw[←hb]
 have HQ:=hdq (show TruQ C oc s (.inr b,s.left) W (.returned (.bool b)) W from⟨rfl,h.st,Fr.refl _ _⟩)
 have e1:=hb.symm
 clear h hq hT ho hb
 go_enter Tryz.func179,Tryz.ntmps179
 go_wp2_with fail
 go_ret
 exact HQ.out
def ntV (X0:Bs→Tru):Bs→Tru:=fun s l=>match X0 s l with
 |(.inr b,l)=>(.inr (!b),l)
 |(.inl h,l)=>(.inl h,l)
theorem tru_2 {x1:Nat} {v1:Value} {X0:Bs→Tru} (ho:C.Ok) (hT:C.T≤lo) (h1:Bx lo hi w x1 223 #[v1]) (hv1:TruP C ps v1 X0 lo hi w):TruP C ps (.func (.func 180) #[] #[.pointer (some ⟨x1,0,none⟩)]) (ntV X0) lo hi w:=by
 obtain⟨g1,caps1,rfl,hg1,hcall1⟩:=hv1
 refine⟨_,_,rfl,enters_of Tryz.func180 (by kernel_rfl) rfl,fun W oc nb s h=>?_⟩
 have c0:=(h.bx ho hT h1).cell 0
 simp only[List.getElem?_toArray,List.getElem?_cons_succ,List.getElem?_cons_zero]at c0
 have HC1:=hdq (hcall1 W oc nb s h)
 unfold Enters at hg1
 clear hcall1 h h1 ho hT
 show Calls Tryz.prog 180 #[.map (some nb),.pointer (some ⟨x1,0,none⟩)] W (TruQ C oc s (ntV X0 s s.left) W)
 unfold ntV
 rcases hx:X0 s s.left with⟨r|r,l⟩
 all_goals
  rw[hx]at HC1
  go_enter Tryz.func180,Tryz.ntmps180
  go_wp2_with fail
  refine HC1.out.mono ?_
  rintro e w1 ⟨rfl,hs1,hf1⟩
 ·exact⟨rfl,rfl,hs1,hf1⟩
 ·have HS:=hdq hs1
  have HF:=hdq hf1
  clear hs1 hf1 c0 HC1 hx hg1
  unfold truEnd
  go_wp2_with fail
  go_ret
  exact⟨rfl,HS.out,HF.out⟩
def aoV (k:Int) (X0 X1:Bs→Tru):Bs→Tru:=fun s l=>match X0 s l with
 |(.inr b,l)=>if b=(k==10)then X1 s l else(.inr b,l)
 |(.inl h,l)=>(.inl h,l)
theorem tru_3 {x1 x2:Nat} {v1 v2:Value} {X0 X1:Bs→Tru} (ho:C.Ok) (hT:C.T≤lo) (hk:k=10∨k=11) (hq:Bx lo hi w q 179 #[.int .u8 k,.slice A l c,.slice A2 l2 c2,.int .i64 at_]) (h1:Bx lo hi w x1 223 #[v1]) (h2:Bx lo hi w x2 223 #[v2]) (hv1:TruP C ps v1 X0 lo hi w) (hv2:TruP C ps v2 X1 lo hi w)
  (hX:∀s l,(X0 s l).2 ≤l) (hX1:∀s a l,X1 {s with left:=a} l=X1 s l):TruP C ps (.func (.func 181) #[] #[.pointer (some ⟨x1,0,none⟩),.pointer (some ⟨q,0,none⟩),.pointer (some ⟨x2,0,none⟩)]) (aoV k X0 X1) lo hi w:=by
 obtain⟨g1,caps1,rfl,hg1,hcall1⟩:=hv1
 obtain⟨g2,caps2,rfl,hg2,hcall2⟩:=hv2
 refine⟨_,_,rfl,enters_of Tryz.func181 (by kernel_rfl) rfl,fun W oc nb s h=>?_⟩
 have hW:=h.fr0 ho (Fr.refl NoT W).drew
 have hs:∀W' t,RunAt C lo hi w W' ps oc nb t→AoS q x1 k (.func (.func g1) #[] caps1) W':=fun W' t h'=>⟨(h'.bx ho hT hq).cell 0,(h'.bx ho hT h1).cell 0⟩
 have hs2:∀W' t,RunAt C lo hi w W' ps oc nb t→W'.cell? ⟨x2,0,none⟩=some (.func (.func g2) #[] caps2):=fun W' t h'=>(h'.bx ho hT h2).cell 0
 have HS:=hdq hs
 have HS2:=hdq hs2
 have HW:=hdq hW
 have HC1:=hdq (hcall1 _ oc nb s hW)
 have HC2:=hdq (fun W' t (h':RunAt C lo hi w W' ps oc nb t)=>hcall2 W' oc nb t h')
 have hXl:=hX s s.left
 have hX1':=hX1 s
 unfold Enters at hg1 hg2
 obtain⟨r,hr⟩:=nmq (aoV k X0 X1 s s.left)
 show Calls Tryz.prog 181 #[.map (some nb),.pointer (some ⟨x1,0,none⟩),.pointer (some ⟨q,0,none⟩),.pointer (some ⟨x2,0,none⟩)] W (TruQ C oc s (aoV k X0 X1 s s.left) W)
 rw[←hr]
 unfold aoV at hr
 have q10:∃b,(k==10)=b∧(k==11)= !b:=⟨k==10,rfl,by rcases hk with rfl|rfl<;>rfl⟩
 obtain⟨ib,q10,q11⟩:=q10
 rw[q10]at hr
 clear hcall1 hcall2 hs hs2 hq h1 h2 hT hk hX hX1 h hW
 rcases hx:X0 s s.left with⟨h0|b,l⟩
 all_goals
  rw[hx]at hr HC1 hXl
  have HXL:=hdq (show l≤s.left from hXl)
  have HX1:=hdq hX1'
  have HR:=hdq hr
  clear hr hXl hX1' hx
  go_enter Tryz.func181,Tryz.ntmps181
  go_wp2_with fail
  refine wp_region_E (AoS q x1 k (.func (.func g1) #[] caps1)) (fun _=>true) (by kernel_rfl) (HS.out _ _ HW.out) (fun hHeld=>?_)
  refine wpE_pu 1 ?_
  try simp only[Act.put,List.setIfInBounds_toArray,List.set_cons_zero,List.set_cons_succ]
  refine wpE_pu 3 ?_
  try simp only[Act.put,List.setIfInBounds_toArray,List.set_cons_zero,List.set_cons_succ]
  refine wpE_take 0 (v:=?_) rfl (by kernel_rfl) (fun _ _ _ h=>h) hHeld (by rfl) ?_ ?_;rotate_left
  ·intro wz hSz;(try dsimp only[AoS,CpS,CtS]at hSz);go_simp;try with_reducible rfl
  try simp only[Act.put,List.setIfInBounds_toArray,List.set_cons_zero,List.set_cons_succ]
  refine wpE_take 4 (v:=?_) rfl (by kernel_rfl) (fun _ _ _ h=>h) hHeld (by rfl) ?_ ?_;rotate_left
  ·intro wz hSz;(try dsimp only[AoS,CpS,CtS]at hSz);go_simp;try with_reducible rfl
  try simp only[Act.put,List.setIfInBounds_toArray,List.set_cons_zero,List.set_cons_succ]
  refine wpE_pu 5 ?_
  try simp only[Act.put,List.setIfInBounds_toArray,List.set_cons_zero,List.set_cons_succ]
  refine wpE_next 2 rfl (by kernel_rfl) (fun KK hK=>?_)
  go_simp
  refine HC1.out.mono ?_
  rintro e w1 ⟨rfl,hs1,hf1⟩
 ·rw[HR.out]
  exact⟨rfl,rfl,hs1,(Fr.refl _ _).drew.trans hf1⟩
 ·have hr1:=HW.out.next hf1.toO hs1 HXL.out
  have HS1:=hdq hs1
  have HF1:=hdq (show Fr (fun b=>b=C.R) W w1 from(Fr.refl _ _).drew.trans hf1)
  have H1:=hdq hr1
  clear hs1 hf1 hr1 HC1 hHeld
  unfold truEnd
  try dsimp only
  refine hK _ _ (fun _ _=>HS.out _ _ H1.out) ?_
  clear hK KK
  try simp only[Act.put,List.setIfInBounds_toArray,List.set_cons_zero,List.set_cons_succ]
  refine wpE_pu 6 ?_
  try simp only[Act.put,List.setIfInBounds_toArray,List.set_cons_zero,List.set_cons_succ]
  refine wpE_done (by kernel_rfl) ?_
  by_cases hb:b=ib
  ·have hr2:r=X1 s l:=by rw[HR.out];simp only[if_pos hb]
   have HC:=hdq (HC2.out _ _ H1.out)
   have c2:=HS2.out _ _ H1.out
   have hxl:X1 {s with left:=l} l=X1 s l:=HX1.out l l
   clear HR
   subst hb
   rcases hx1:X1 s l with⟨h1|b1,l1⟩<;>cases b
   all_goals
    have hq:∀w2,BgSt C oc {s with left:=l1} w2→Fr (fun b=>b=C.R) w1 w2→TruQ C oc s r W (truEnd (X1 s l).1) w2:=fun w2 hs hf=>by rw[hr2,hx1];exact⟨rfl,hs,HF1.out.trans hf⟩
    rw[hx1]at hq
    have HQ:=hdq hq
    have HXL1:=hdq hxl
    have HX9:=hdq hx1
    clear hq hr2 hxl hx1
    go_wp2_with fail
    refine HC.out.mono ?_
    rw[show X1 {s with left:=l} ({s with left:=l}:Bs).left =X1 s l from HXL1.out,HX9.out]
    rintro e w2 ⟨rfl,hs2,hf2⟩
    first
     |exact⟨rfl,HQ.out _ hs2 hf2⟩
     |(have HE:=hdq (HQ.out _ hs2 hf2)
       clear hs2 hf2
       unfold truEnd
       go_wp2_with fail
       go_ret
       exact HE.out)
  ·have hr2:r=(.inr b,l):=by rw[HR.out];simp only[if_neg hb]
   have c0:=(HS.out _ _ H1.out).1
   have HQ:=hdq (show TruQ C oc s r W (.returned (.bool b)) w1 by rw[hr2];exact⟨rfl,HS1.out,HF1.out⟩)
   clear HR hr2
   cases b<;>cases ib<;>first|exact absurd rfl hb|skip
   all_goals
    clear hb
    go_wp2_with fail
    go_ret
    exact HQ.out
def cpV (k at_:Int) (X0 X1:Bs→Ho ⊕ Int):Bs→Tru:=fun s l=>match l with
 |0=>(.inl ⟨2,0,at_⟩,0)
 |l+1=>match X0 s with
  | .inl h=>(.inl h,l)
  | .inr a=>match X1 s with
   | .inl h=>(.inl h,l)
   | .inr b=>(.inr (cmpB k a b),l)
theorem RunAt.cts {W:World} {oc:List Nat} {nb:Nat} {s:Bs} {p i:Nat} {ty:TypeId} {cs:Array Value} (h:RunAt C lo hi w W ps oc nb s) (ho:C.Ok) (hT:C.T≤lo) (hpg:PgAt C w) (hp:Bx lo hi w p 69 #[.pointer (some ⟨C.P,0,none⟩)]) (hq:Bx lo hi w q ty cs) (hi:cs[i]?=some (.int .i64 at_)):CtS C p q i at_ W:=
 ⟨(h.bx ho hT hp).cell 0,(hpg.run ho h).p.cell 0,((h.bx ho hT hq).cell i).trans hi⟩
theorem tru_4 {p x1 x2:Nat} {v1 v2:Value} {X0 X1:Bs→Ho ⊕ Int} (ho:C.Ok) (hT:C.T≤lo) (hpg:PgAt C w) (hp:Bx lo hi w p 69 #[.pointer (some ⟨C.P,0,none⟩)]) (hq:Bx lo hi w q 179 #[.int .u8 k,.slice A l c,.slice A2 l2 c2,.int .i64 at_]) (h1:Bx lo hi w x1 278 #[v1]) (h2:Bx lo hi w x2 278 #[v2])
  (hv1:ValP C ps v1 X0 lo hi w) (hv2:ValP C ps v2 X1 lo hi w) (hX0:∀s a,X0 {s with left:=a}=X0 s) (hX1:∀s a,X1 {s with left:=a}=X1 s):
  TruP C ps (.func (.func 182) #[] #[.pointer (some ⟨p,0,none⟩),.pointer (some ⟨q,0,none⟩),.pointer (some ⟨x1,0,none⟩),.pointer (some ⟨x2,0,none⟩)]) (cpV k at_ X0 X1) lo hi w:=by
 obtain⟨g1,caps1,rfl,hg1,hcall1⟩:=hv1
 obtain⟨g2,caps2,rfl,hg2,hcall2⟩:=hv2
 refine⟨_,_,rfl,enters_of Tryz.func182 (by kernel_rfl) rfl,fun W oc nb s h=>?_⟩
 have hW:=h.fr0 ho (Fr.refl NoT W).drew
 have HS:=hdq (fun W' t (h':RunAt C lo hi w W' ps oc nb t)=>h'.cts ho hT hpg hp hq (i:=3) rfl)
 have HC:=hdq (fun W' t (h':RunAt C lo hi w W' ps oc nb t)=>cost_any h'.st ho at_)
 have HC1:=hdq (fun W' t (h':RunAt C lo hi w W' ps oc nb t)=>hcall1 W' oc nb t h')
 have HC2:=hdq (fun W' t (h':RunAt C lo hi w W' ps oc nb t)=>hcall2 W' oc nb t h')
 have HB1:=hdq (fun W' t (h':RunAt C lo hi w W' ps oc nb t)=>(h'.bx ho hT h1).cell 0)
 have HP:=hdq (fun W' t (h':RunAt C lo hi w W' ps oc nb t)=>(show CpS q x2 k (.func (.func g2) #[] caps2) W' from⟨(h'.bx ho hT hq).cell 0,(h'.bx ho hT h2).cell 0⟩))
 have HF0:=hdq (fun W' W2 t (h':RunAt C lo hi w W' ps oc nb t) (hf:Fr NoT W' W2)=>h'.fr0 ho hf)
 have HX0:=hdq (hX0 s)
 have HX1:=hdq (hX1 s)
 have HW:=hdq hW
 unfold Enters at hg1 hg2
 obtain⟨r,hr⟩:=nmq (cpV k at_ X0 X1 s s.left)
 show Calls Tryz.prog 182 #[.map (some nb),.pointer (some ⟨p,0,none⟩),.pointer (some ⟨q,0,none⟩),.pointer (some ⟨x1,0,none⟩),.pointer (some ⟨x2,0,none⟩)] W (TruQ C oc s (cpV k at_ X0 X1 s s.left) W)
 rw[←hr]
 have HR:=hdq hr
 obtain⟨P,hP⟩:=nmq C.P
 obtain⟨R,hR⟩:=nmq C.R
 rw[←hR]at HC
 clear hcall1 hcall2 hq hp h1 h2 hT hX0 hX1 h hW hpg hr ho hP
 go_enter Tryz.func182,Tryz.ntmps182
 go_wp2_with fail
 refine wp_region_E (CtS C p q 3 at_) (fun _=>true) (by kernel_rfl) (HS.out _ _ HW.out) (fun hHeld=>?_)
 refine wpE_pu 4 ?_
 try simp only[Act.put,List.setIfInBounds_toArray,List.set_cons_zero,List.set_cons_succ]
 refine wpE_take 0 (v:=?_) rfl (by kernel_rfl) (fun _ _ _ h=>h) hHeld (by rfl) ?_ ?_;rotate_left
 ·intro wz hSz;(try dsimp only[AoS,CpS,CtS]at hSz);go_simp;try with_reducible rfl
 try simp only[Act.put,List.setIfInBounds_toArray,List.set_cons_zero,List.set_cons_succ]
 refine wpE_take 5 (v:=?_) rfl (by kernel_rfl) (fun _ _ _ h=>h) hHeld (by rfl) ?_ ?_;rotate_left
 ·intro wz hSz;(try dsimp only[AoS,CpS,CtS]at hSz);go_simp;try with_reducible rfl
 try simp only[Act.put,List.setIfInBounds_toArray,List.set_cons_zero,List.set_cons_succ]
 refine wpE_pu 1 ?_
 try simp only[Act.put,List.setIfInBounds_toArray,List.set_cons_zero,List.set_cons_succ]
 refine wpE_pu 2 ?_
 try simp only[Act.put,List.setIfInBounds_toArray,List.set_cons_zero,List.set_cons_succ]
 refine wpE_take 3 (v:=?_) rfl (by kernel_rfl) (fun _ _ _ h=>h) hHeld (by rfl) ?_ ?_;rotate_left
 ·intro wz hSz;(try dsimp only[AoS,CpS,CtS]at hSz);go_simp;try with_reducible rfl
 try simp only[Act.put,List.setIfInBounds_toArray,List.set_cons_zero,List.set_cons_succ]
 refine wpE_next 6 rfl (by kernel_rfl) (fun KK hK=>?_)
 go_simp
 go_at_call 110
 rw[←hR]
 refine(HC.out _ _ HW.out).mono ?_
 rintro e w1 (⟨h0,rfl,rfl⟩|⟨m,hm,rfl,hs1,hf1⟩)
 ·have hr2:r=(.inl ⟨2,0,at_⟩,0):=by rw[HR.out,h0];rfl
  rw[hr2]
  exact⟨rfl,rfl,by have:=HW.out.st;show BgSt C oc {s with left:=0} _;rw[←h0];exact this,(Fr.refl _ _).drew⟩
 have hr1:RunAt C lo hi w w1 ps oc nb {s with left:=m}:=HW.out.next hf1.toO hs1 (by show m≤s.left;omega)
 have H1:=hdq hr1
 have HF1:=hdq (show Fr (fun b=>b=C.R) W w1 from(Fr.refl _ _).drew.trans hf1)
 have HR2:=hdq (show r=cpV k at_ X0 X1 s (m+1) by rw[HR.out,hm])
 have c3:=HB1.out _ _ hr1
 clear hs1 hf1 hr1 hm HR HC hR hHeld
 try dsimp only
 refine hK _ _ (fun _ _=>HS.out _ _ H1.out) ?_
 clear hK KK
 try simp only[Act.put,List.setIfInBounds_toArray,List.set_cons_zero,List.set_cons_succ]
 refine wpE_done (by kernel_rfl) ?_
 go_wp2_with fail
 refine(HC1.out _ _ H1.out).mono ?_
 rintro e w2 ⟨he,hf2⟩
 rw[HX0.out]at he
 rcases hx0:X0 s with ho0|a
 ·rw[hx0]at he
  obtain rfl:=he
  have hr3:r=(.inl ho0,m):=by rw[HR2.out];simp only[cpV,hx0]
  rw[hr3]
  exact⟨rfl,rfl,(HF0.out _ _ _ H1.out hf2).st,HF1.out.trans hf2.any⟩
 rw[hx0]at he
 obtain⟨rfl,ha⟩:=he
 have H2:=hdq (HF0.out _ _ _ H1.out hf2.drew)
 have HF2:=hdq (show Fr (fun b=>b=C.R) W w2.drew from HF1.out.trans hf2.drew.any)
 have HX:=hdq hx0
 clear hf2 ha hx0 HC1 c3
 go_wp2_with fail
 refine wp_region_E (CpS q x2 k (.func (.func g2) #[] caps2)) (fun _=>true) (by kernel_rfl) (HP.out _ _ H2.out) (fun hHeld=>?_)
 refine wpE_pu 0 ?_
 try simp only[Act.put,List.setIfInBounds_toArray,List.set_cons_zero,List.set_cons_succ]
 refine wpE_pu 2 ?_
 try simp only[Act.put,List.setIfInBounds_toArray,List.set_cons_zero,List.set_cons_succ]
 refine wpE_pu 4 ?_
 try simp only[Act.put,List.setIfInBounds_toArray,List.set_cons_zero,List.set_cons_succ]
 refine wpE_take 1 (v:=?_) rfl (by kernel_rfl) (fun _ _ _ h=>h) hHeld (by rfl) ?_ ?_;rotate_left
 ·intro wz hSz;(try dsimp only[AoS,CpS,CtS]at hSz);go_simp;try with_reducible rfl
 try simp only[Act.put,List.setIfInBounds_toArray,List.set_cons_zero,List.set_cons_succ]
 refine wpE_take 3 (v:=?_) rfl (by kernel_rfl) (fun _ _ _ h=>h) hHeld (by rfl) ?_ ?_;rotate_left
 ·intro wz hSz;(try dsimp only[AoS,CpS,CtS]at hSz);go_simp;try with_reducible rfl
 try simp only[Act.put,List.setIfInBounds_toArray,List.set_cons_zero,List.set_cons_succ]
 refine wpE_next 5 rfl (by kernel_rfl) (fun KK hK=>?_)
 go_simp
 refine(HC2.out _ _ H2.out).mono ?_
 rintro e w3 ⟨he,hf3⟩
 rw[HX1.out]at he
 rcases hx1:X1 s with ho1|b
 ·rw[hx1]at he
  obtain rfl:=he
  have hr3:r=(.inl ho1,m):=by rw[HR2.out];simp only[cpV,HX.out,hx1]
  rw[hr3]
  exact⟨rfl,rfl,(HF0.out _ _ _ H2.out hf3).st,HF2.out.trans hf3.any⟩
 rw[hx1]at he
 obtain⟨rfl,hb⟩:=he
 have H3:=hdq (HF0.out _ _ _ H2.out hf3)
 have hr3:r=(.inr (cmpB k a b),m):=by rw[HR2.out];simp only[cpV,HX.out,hx1]
 have HQ:=hdq (show TruQ C oc s r W (.returned (.bool (cmpB k a b))) w3 by rw[hr3];exact⟨rfl,H3.out.st,HF2.out.trans hf3.any⟩)
 have HCM:=hdq (compare_any k a b w3)
 clear hf3 hb hx1 hr3 HR2
 try dsimp only
 refine hK _ _ (fun _ _=>HP.out _ _ H3.out) ?_
 clear hK KK
 try simp only[Act.put,List.setIfInBounds_toArray,List.set_cons_zero,List.set_cons_succ]
 refine wpE_next 6 rfl (by kernel_rfl) (fun KK hK=>?_)
 go_simp
 go_at_call 89
 refine HCM.out.mono ?_
 rintro _ w4 ⟨rfl,rfl⟩
 try dsimp only
 refine hK _ _ (fun _ h=>h) ?_
 clear hK KK
 try simp only[Act.put,List.setIfInBounds_toArray,List.set_cons_zero,List.set_cons_succ]
 refine wpE_pu 7 ?_
 try simp only[Act.put,List.setIfInBounds_toArray,List.set_cons_zero,List.set_cons_succ]
 refine wpE_pu 8 ?_
 try simp only[Act.put,List.setIfInBounds_toArray,List.set_cons_zero,List.set_cons_succ]
 refine wpE_pu 10 ?_
 try simp only[Act.put,List.setIfInBounds_toArray,List.set_cons_zero,List.set_cons_succ]
 refine wpE_pu 9 ?_
 try simp only[Act.put,List.setIfInBounds_toArray,List.set_cons_zero,List.set_cons_succ]
 refine wpE_pu 11 ?_
 try simp only[Act.put,List.setIfInBounds_toArray,List.set_cons_zero,List.set_cons_succ]
 refine wpE_done (by kernel_rfl) ?_
 go_wp2_with fail
 go_ret
 exact HQ.out
end
end Go.Proofs.YtfomomaomggpbaaGreatDoor

namespace Go.Proofs.YtfomomaomggpbaaGreatDoor
open Go.RowKit Go.Shelf

def hdC (k:Int) (args:Exs) (of_:Cds):Prop:=(1≤k∧k≤11)∧(k=9→of_.len=1)∧(k=10∨k=11→of_.len=2)∧(3≤k→k≤8→args.len=2)
def wfCb (n:Bn) (ps:List (List UInt8)):Cds→Prop
 | .nil =>True
 | .cons k args of_ _ r=>hdC k args of_∧wfX n ps args∧wfCb n ps of_∧wfCb n ps r
def MkT (C:BgC) (ps:List (List UInt8)) (X:Bs→Tru) (W:World) (e:Ending) (w':World):Prop:=∃val,e= .returned val∧Fr NoT W w'∧TruP C ps val X W.heap.size w'.heap.size w'
def truS (n:Bn) (ps:List (List UInt8)) (k:Int) (args:Exs) (of_:Cds) (at_:Int):Bs→Tru:=fun s=>truF n ps s k args (truC n ps s of_) at_
def CndC (C:BgC) (ps:List (List UInt8)) (k:Int) (args:Exs) (of_:Cds) (at_:Int):Prop:=
 ∀(W:World) (S:Nat→Prop) (Z:Prop) (A A2:Option Addr) (c c2:Nat),C.T≤W.heap.size→PgAt C W→(∀x,S x→x < C.B)→SlR (fun b o=>ExR W S Z args b o) args.len 64 A c→SlR (fun b o=>CdR W S Z of_ b o) of_.len 64 A2 c2→
  Calls Tryz.prog 107 #[.pointer (some ⟨C.P,0,none⟩),.agg #[.int .u8 k,.slice A args.len c,.slice A2 of_.len c2,.int .i64 at_]] W (MkT C ps (truS C.n ps k args of_ at_) W)
def bgBoxC (C:BgC) (W:World) (k:Int) (A A2:Option Addr) (l c l2 c2:Nat) (at_:Int):World:=(W.alloc (.cells #[.pointer (some ⟨C.P,0,none⟩)] 69)).alloc (.cells #[.int .u8 k,.slice A l c,.slice A2 l2 c2,.int .i64 at_] 179)
structure bgBxC (C:BgC) (W w:World) (k:Int) (A A2:Option Addr) (l c l2 c2:Nat) (at_:Int):Prop where
 fr:Fr NoT W w
 p:Bk w W.heap.size 69 #[.pointer (some ⟨C.P,0,none⟩)]
 q:Bk w (W.heap.size+1) 179 #[.int .u8 k,.slice A l c,.slice A2 l2 c2,.int .i64 at_]
section
variable {C:BgC} {ps:List (List UInt8)} {W w w':World} {k:Int} {A A2:Option Addr} {l c l2 c2:Nat} {at_:Int}
theorem boxC_at:bgBxC C W (bgBoxC C W k A A2 l c l2 c2 at_) k A A2 l c l2 c2 at_:=⟨((Fr.refl _ _).alloc _).alloc _,(Bk.new _ _ _).alloc _,Bk.new_at _ _ _ (by simp)⟩
theorem bgBxC.next (h:bgBxC C W w k A A2 l c l2 c2 at_) (hf:Fr NoT w w'):bgBxC C W w' k A A2 l c l2 c2 at_:=⟨h.fr.trans hf,h.p.fr0 hf,h.q.fr0 hf⟩
theorem bgBxC.bp (h:bgBxC C W w k A A2 l c l2 c2 at_):Bx W.heap.size w.heap.size w W.heap.size 69 #[.pointer (some ⟨C.P,0,none⟩)]:=⟨h.p,lrq _,h.p.lt⟩
theorem bgBxC.bq (h:bgBxC C W w k A A2 l c l2 c2 at_):Bx W.heap.size w.heap.size w (W.heap.size+1) 179 #[.int .u8 k,.slice A l c,.slice A2 l2 c2,.int .i64 at_]:=⟨h.q,Nat.le_succ _,h.q.lt⟩
theorem TruP.eq {X Y:Bs→Tru} {val:Value} {lo hi:Nat} (h:TruP C ps val X lo hi w) (e:X=Y):TruP C ps val Y lo hi w:=e▸h
theorem truS_left (n:Bn) (ps:List (List UInt8)) (k args of_ at_) (s:Bs) (l:Nat):(truS n ps k args of_ at_ s l).2 ≤l:=truF_left (truC_left n ps s of_) l
theorem truS_at (n:Bn) (ps:List (List UInt8)) (k args of_ at_) (s:Bs) (a l:Nat):truS n ps k args of_ at_ {s with left:=a} l=truS n ps k args of_ at_ s l:=by
 unfold truS
 rw[truC_at,truF_at]
theorem valH_at (n:Bn) (ps:List (List UInt8)) (k nm m at_ args) (s:Bs) (a:Nat):valH n ps k nm m at_ args {s with left:=a}=valH n ps k nm m at_ args s:=by
 unfold valH
 rw[valL_left]
 rfl
theorem truS_1 (n:Bn) (ps:List (List UInt8)) (k:Int) (hk:k=1∨k=2) (args of_ at_):(fun _ l=>(.inr (k==1),l))=truS n ps k args of_ at_:=by
 funext s l
 rcases hk with rfl|rfl<;>rfl
theorem truS_9 (n:Bn) (ps:List (List UInt8)) (args at_ k0 a0 o0 t0):ntV (truS n ps k0 a0 o0 t0)=truS n ps 9 args (.cons k0 a0 o0 t0 .nil) at_:=rfl
theorem truS_10 (n:Bn) (ps:List (List UInt8)) (k:Int) (hk:k=10∨k=11) (args at_ k0 a0 o0 t0 k1 a1 o1 t1):aoV k (truS n ps k0 a0 o0 t0) (truS n ps k1 a1 o1 t1)=truS n ps k args (.cons k0 a0 o0 t0 (.cons k1 a1 o1 t1 .nil)) at_:=by
 funext s l
 rcases hk with rfl|rfl
 ·show aoV 10 (truS n ps k0 a0 o0 t0) (truS n ps k1 a1 o1 t1) s l=(match truS n ps k0 a0 o0 t0 s l with|(.inr true,l)=>truS n ps k1 a1 o1 t1 s l|r=>r)
  unfold aoV
  rcases truS n ps k0 a0 o0 t0 s l with⟨h|(_|_),q⟩<;>rfl
 ·show aoV 11 (truS n ps k0 a0 o0 t0) (truS n ps k1 a1 o1 t1) s l=(match truS n ps k0 a0 o0 t0 s l with|(.inr false,l)=>truS n ps k1 a1 o1 t1 s l|r=>r)
  unfold aoV
  rcases truS n ps k0 a0 o0 t0 s l with⟨h|(_|_),q⟩<;>rfl
theorem truS_cmp (n:Bn) (ps:List (List UInt8)) (k:Int) (h3:3≤k) (h8:k≤8) (of_ at_ k0 n0 m0 a0 t0 k1 n1 m1 a1 t1):cpV k at_ (valH n ps k0 n0 m0 t0 a0) (valH n ps k1 n1 m1 t1 a1)=truS n ps k (.cons k0 n0 m0 a0 t0 (.cons k1 n1 m1 a1 t1 .nil)) of_ at_:=by
 funext s l
 have e:truS n ps k (.cons k0 n0 m0 a0 t0 (.cons k1 n1 m1 a1 t1 .nil)) of_ at_ s l=(match l with
  |0=>(.inl ⟨2,0,at_⟩,0)
  |left+1=>match valL n ps s (.cons k0 n0 m0 a0 t0 (.cons k1 n1 m1 a1 t1 .nil))with
   | .inl h=>(.inl h,left)
   | .inr l=>(.inr (cmpB k (l.getD 0 0) (l.getD 1 0)),left)):=by
  unfold truS truF
  rw[if_neg (by omega),if_neg (by omega),if_neg (by omega),if_neg (by omega),if_neg (by omega)]
  cases l<;>rfl
 rw[e]
 cases l with
 |zero=>rfl
 |succ q=>
  simp only[cpV]
  rw[valL_two,valL_one]
  rcases valH n ps k0 n0 m0 t0 a0 s with h|x
  ·rfl
  ·rcases valH n ps k1 n1 m1 t1 a1 s with h|y<;>rfl
theorem cnd_leaf (ho:C.Ok) (args:Exs) (of_:Cds) (hk:k=1∨k=2):CndC C ps k args of_ at_:=by
 intro W S Z A A2 c c2 hT hpg hS hx hx2
 have hB:=boxC_at (C:=C) (W:=W) (k:=k) (A:=A) (A2:=A2) (l:=args.len) (c:=c) (l2:=of_.len) (c2:=c2) (at_:=at_)
 obtain⟨l,hl⟩:=nmq args.len
 obtain⟨l2,hl2⟩:=nmq of_.len
 rw[←hl,←hl2]at hB ⊢
 have HV:=hdq ((tru_1 (ps:=ps) ho hT hB.bq).eq (truS_1 C.n ps k hk args of_ at_))
 have HF:=hdq hB.fr
 unfold bgBoxC at HV HF
 clear hT hpg hS hx hx2 hB hl hl2
 rcases hk with rfl|rfl
 all_goals
  go_enter Tryz.func107,Tryz.ntmps107
  go_wp2_with fail
  go_ret
  exact⟨_,rfl,HF.out,HV.out⟩
end
def CxS (p q b o:Nat) (P A2:Option Addr) (l2 c2:Nat) (v0 v1 v2 v3:Value) (W:World):Prop:=W.cell? ⟨p,0,none⟩=some (.pointer P)∧W.cell? ⟨q,2,none⟩=some (.slice A2 l2 c2)∧W.cell? ⟨b,o,none⟩=some v0∧W.cell? ⟨b,o+1,none⟩=some v1∧W.cell? ⟨b,o+2,none⟩=some v2∧W.cell? ⟨b,o+3,none⟩=some v3
def C11 (p q b o:Nat) (P A2:Option Addr) (l2 c2:Nat) (v0 v1 v2 v3 u0 u1 u2 u3:Value) (W:World):Prop:=CxS p q b o P A2 l2 c2 v0 v1 v2 v3 W∧W.cell? ⟨b,o+4,none⟩=some u0∧W.cell? ⟨b,o+4+1,none⟩=some u1∧W.cell? ⟨b,o+4+2,none⟩=some u2∧W.cell? ⟨b,o+4+3,none⟩=some u3
def CyS (p q b o:Nat) (P A:Option Addr) (l c:Nat) (v0 v1 v2 v3 v4 u0 u1 u2 u3 u4:Value) (W:World):Prop:=(W.cell? ⟨p,0,none⟩=some (.pointer P)∧W.cell? ⟨q,1,none⟩=some (.slice A l c)∧W.cell? ⟨b,o,none⟩=some v0∧W.cell? ⟨b,o+1,none⟩=some v1∧W.cell? ⟨b,o+2,none⟩=some v2∧W.cell? ⟨b,o+3,none⟩=some v3∧W.cell? ⟨b,o+4,none⟩=some v4)∧
 W.cell? ⟨b,o+5,none⟩=some u0∧W.cell? ⟨b,o+5+1,none⟩=some u1∧W.cell? ⟨b,o+5+2,none⟩=some u2∧W.cell? ⟨b,o+5+3,none⟩=some u3∧W.cell? ⟨b,o+5+4,none⟩=some u4
abbrev SlT:=Value→Nat→Nat→World→Prop
def Stb (C:BgC) (g:SlT):Prop:=∀v lo hi w w',Later C lo hi w w'→g v lo hi w→g v lo hi w'
def slo1 (g0:SlT):Nat→Option SlT
 |0=>some g0
 |_=>none
def slo2 (g0 g1:SlT):Nat→Option SlT
 |0=>some g0
 |1=>some g1
 |_=>none
theorem slo1_on {C:BgC} {g0:SlT} (h0:Stb C g0):∀p g,slo1 g0 p=some g→Stb C g
 |0,g,e=>by cases e;exact h0
 |p+1,g,e=>by cases e
theorem slo2_on {C:BgC} {g0 g1:SlT} (h0:Stb C g0) (h1:Stb C g1):∀p g,slo2 g0 g1 p=some g→Stb C g
 |0,g,e=>by cases e;exact h0
 |1,g,e=>by cases e;exact h1
 |p+2,g,e=>by cases e
def slT (C:BgC) (ps:List (List UInt8)) (X:Bs→Tru):SlT:=fun v lo hi w=>TruP C ps v X lo hi w
def bgSlV (C:BgC) (ps:List (List UInt8)) (X:Bs→Ho ⊕ Int):SlT:=fun v lo hi w=>ValP C ps v X lo hi w
theorem slT_on {C:BgC} {ps:List (List UInt8)} {X:Bs→Tru}:Stb C (slT C ps X):=fun _ _ _ _ _ hl h=>TruP.later h hl
theorem slV_on {C:BgC} {ps:List (List UInt8)} {X:Bs→Ho ⊕ Int}:Stb C (bgSlV C ps X):=fun _ _ _ _ _ hl h=>ValP.later h hl
def tyK (t:TypeId):Nat→TypeId:=fun _=>t
theorem TruP.func {C:BgC} {ps:List (List UInt8)} {v:Value} {X:Bs→Tru} {lo hi:Nat} {w:World} (h:TruP C ps v X lo hi w):∃g caps,v= .func (.func g) #[] caps:=by
 obtain⟨g,caps,e,_⟩:=h
 exact⟨g,caps,e⟩
theorem ValP.func {C:BgC} {ps:List (List UInt8)} {v:Value} {X:Bs→Ho ⊕ Int} {lo hi:Nat} {w:World} (h:ValP C ps v X lo hi w):∃g caps,v= .func (.func g) #[] caps:=by
 obtain⟨g,caps,e,_⟩:=h
 exact⟨g,caps,e⟩
def vaAll:List Bool→Bool:=fun _=>true
def vaTwo:List Bool→Bool:=fun bs=> !bs.getD 1 false || bs.getD 0 false
theorem cnd_not (C:BgC) (ps:List (List UInt8)) (ho:C.Ok) (args:Exs) (of_:Cds) (at_:Int) (k0 a0 o0 t0) (e:of_= .cons k0 a0 o0 t0 .nil) (h0:CndC C ps k0 a0 o0 t0):CndC C ps 9 args of_ at_:=by
 intro W S Z A A2 c c2 hT hpg hS hx hx2
 obtain⟨bb,oo,rfl,hat⟩:=hx2.2.2 (by rw[e];simp[Cds.len])
 rw[e]at hat
 obtain⟨⟨hbS,_,_,_,e0,e3⟩,⟨A3,c3,e1,s1⟩,⟨A4,c4,e2,s2⟩,_⟩:=hat
 obtain⟨l,hl⟩:=nmq args.len
 obtain⟨l2,hl2⟩:=nmq of_.len
 have hl20:0 < l2:=by rw[hl2,e];simp[Cds.len]
 have hl2m:l2≤9223372036854775807:=by rw[hl2];exact leq9 hx2.1 hx2.2.1.1
 obtain⟨l3,hl3⟩:=nmq a0.len
 obtain⟨l4,hl4⟩:=nmq o0.len
 rw[←hl3]at e1
 rw[←hl4]at e2
 obtain⟨w2,hw2⟩:=nmq (bgBoxC C W 9 A (some ⟨bb,oo,none⟩) l c l2 c2 at_)
 have hB:bgBxC C W w2 9 A (some ⟨bb,oo,none⟩) l c l2 c2 at_:=by rw[hw2];exact boxC_at
 have hBW:C.B≤W.heap.size:=by have h1:=ho.br;have h2:=ho.rT;omega
 have hbW:bb < W.heap.size:=ltq (hS _ hbS) hBW
 have hT2:C.T≤w2.drew.heap.size:=leq9 hT hB.fr.size
 have hsm:∀w',Fr NoT W w'→SameS S W w':=fun w' hf=>hf.same fun b hb=>⟨ltq (hS b hb) hBW,id⟩
 have hpl:∀w',Fr NoT W w'→PgAt C w':=fun w' hf=>hpg.later ho (Later.of0 (lo:=0) (hi:=0) hf (Nat.zero_le _) hT)
 have hcall:∀w',Fr NoT W w'→_:=fun w' hf=>h0 w' S Z A3 A4 c3 c4 (leq9 hT hf.size) (hpl w' hf) hS (s1.imp fun _ _ hx=>ExR.keep (hsm w' hf) hx) (s2.imp fun _ _ hx=>CdR.keep (hsm w' hf) hx)
 have hs2:∀w',Fr NoT w2 w'→CxS W.heap.size (W.heap.size+1) bb oo (some ⟨C.P,0,none⟩) (some ⟨bb,oo,none⟩) l2 c2 (.int .u8 k0) (.slice A3 l3 c3) (.slice A4 l4 c4) (.int .i64 t0) w':=fun w' hf=>
  have hf2:=hB.fr.trans hf
  ⟨(hB.next hf).p.cell 0,(hB.next hf).q.cell 2,(hf2.cell hbW id).trans e0,(hf2.cell hbW id).trans e1,(hf2.cell hbW id).trans e2,(hf2.cell hbW id).trans e3⟩
 have hall:∀w7 x1 v1 lo1 hi1,Fr NoT W w7→Bx W.heap.size w7.heap.size w7 x1 223 #[v1]→TruP C ps v1 (truS C.n ps k0 a0 o0 t0) lo1 hi1 w7→W.heap.size≤lo1→hi1≤w7.heap.size→MkT C ps (truS C.n ps 9 args of_ at_) W (.returned (.func (.func 180) #[] #[.pointer (some ⟨x1,0,none⟩)])) w7:=by
  intro w7 x1 v1 lo1 hi1 hf7 hx1 hv1 hlo hhi
  refine⟨_,rfl,hf7,(tru_2 ho hT hx1 (hv1.wide hlo hhi)).eq ?_⟩
  rw[e]
  exact truS_9 ..
 have HS2:=hdq hs2
 rw[←hl3,←hl4]at hcall
 have HC:=hdq hcall
 have HB:=hdq hB
 have HALL:=hdq hall
 unfold bgBoxC at hw2
 have HW:=hdq hw2
 have HT2:=hdq hT2
 rw[←hl,←hl2]
 obtain⟨X0,hX0⟩:=nmq (truS C.n ps k0 a0 o0 t0)
 rw[←hX0]at HC HALL
 have HON:=hdq (slo1_on (g0:=slT C ps X0) slT_on)
 clear hs2 hcall hB hall hw2 hT2 hS hbS hBW hT e hl hl2 hsm hpl hx hx2 hpg e0 e1 e2 e3 s1 s2 hl3 hl4 hbW h0 hX0
 go_enter Tryz.func107,Tryz.ntmps107
 go_wp2_with fail
 rw[←HW.out]
 refine wp_region_E (CxS W.heap.size (W.heap.size+1) bb oo (some ⟨C.P,0,none⟩) (some ⟨bb,oo,none⟩) l2 c2 (.int .u8 k0) (.slice A3 l3 c3) (.slice A4 l4 c4) (.int .i64 t0)) (fun i=>decide (i < 7)) (by kernel_rfl) (HS2.out _ (Fr.refl _ _).drew) (fun hHeld=>?_)
 refine wpE_pu 1 ?_
 try simp only[Act.put,List.setIfInBounds_toArray,List.set_cons_zero,List.set_cons_succ]
 refine wpE_take 0 (v:=?_) rfl (by kernel_rfl) (fun _ _ _ h=>h) hHeld (by rfl) ?_ ?_;rotate_left
 ·intro wz hSz;(try dsimp only[CxS,CyS,ExS]at hSz);go_simp;try with_reducible rfl
 try simp only[Act.put,List.setIfInBounds_toArray,List.set_cons_zero,List.set_cons_succ]
 refine wpE_take 2 (v:=?_) rfl (by kernel_rfl) (fun _ _ _ h=>h) hHeld (by rfl) ?_ ?_;rotate_left
 ·intro wz hSz;(try dsimp only[CxS,CyS,ExS]at hSz);go_simp;try with_reducible rfl
 try simp only[Act.put,List.setIfInBounds_toArray,List.set_cons_zero,List.set_cons_succ]
 refine wpE_pu 3 ?_
 try simp only[Act.put,List.setIfInBounds_toArray,List.set_cons_zero,List.set_cons_succ]
 refine wpE_take 4 (v:=?_) rfl (by kernel_rfl) (fun _ _ _ h=>h) hHeld (by rfl) ?_ ?_;rotate_left
 ·intro wz hSz;(try dsimp only[CxS,CyS,ExS]at hSz);go_simp;try with_reducible rfl
 try simp only[Act.put,List.setIfInBounds_toArray,List.set_cons_zero,List.set_cons_succ]
 refine wpE_manyA 2 [5,6] [23,5] vaAll (fun o w=>ManyI w2.drew (PpG C (slo1 (slT C ps X0)) (tyK 223)) o w) rfl (by decide) (by kernel_rfl) rfl (fun o w h=>HS2.out _ ((Fr.refl _ _).drew.trans h.fr)) (by kernel_rfl) rfl (fun o w p i hI hol hip hop hva=>?_) (fun o w hI hol hall=>?_) (ManyI.zero _ _)
 ·obtain⟨a,b,rfl⟩:=two_of hol
  rcases p with _|_|p
  ·simp at hip hop
   subst hip hop
   cases b
   all_goals
    simp only[putM,Act.put,List.setIfInBounds_toArray,List.set_cons_zero,List.set_cons_succ]
    refine wpOp_step (at_dropE rfl) (fun KK hK=>?_)
    go_simp
    go_at_call 107
    refine(HC.out w ((HB.out.fr.trans (Fr.refl NoT w2).drew).trans hI.fr)).mono ?_
    rintro _ w5 ⟨v0,rfl,hf5,hv5⟩
    try dsimp only
    refine hK _ _ ?_
    exact⟨v0,by kernel_rfl,hI.put (p:=0) HT2.out hf5 (PpG.on HON.out) ⟨hv5,lrq _,leq9 HT2.out (leq9 hI.fr.size hf5.size)⟩⟩
  ·simp at hip hop
   subst hip hop
   cases a
   all_goals
    simp only[putM,Act.put,List.setIfInBounds_toArray,List.set_cons_zero,List.set_cons_succ]
    refine wpOp_step (at_dropE rfl) (fun KK hK=>?_)
    go_simp
    refine hK _ _ ?_
    exact⟨_,by kernel_rfl,hI.lay (p:=1) HT2.out (PpG.on HON.out) (fun v lo hi w h=>h)⟩
  ·simp at hip
 ·obtain⟨u,v,rfl⟩:=all_two hol hall
  obtain⟨gg,cps,rfl⟩:∃gg cps,u= .func (.func gg) #[] cps:=by
   obtain⟨_,_,h9,_⟩:=hI.at_ (p:=0) rfl
   exact TruP.func h9.1
  obtain⟨u,hu⟩:=nmq (Value.func (.func gg) #[] cps)
  rw[←hu]at hI
  obtain⟨g,rfl,hg,hgk⟩:=hI.place (p:=1) (ty:=223) (z:= .nilFunc) rfl (fun _ _ _ _ h=>h)
  have h7:=hI.set (p:=1) (ty:=223) (z:= .nilFunc) HT2.out (PpG.on HON.out) rfl (fun _ _ _ _ h=>h) u
  obtain⟨lo1,hi1,hp7,hlo7,hhi7⟩:=h7.at_ (p:=0) rfl
  have hp7:TruP C ps u X0 lo1 hi1 _:=hp7.1
  have hlo:W.heap.size≤w2.drew.heap.size:=HB.out.fr.size
  have hgk7:Bk (w.setCell ⟨g,0,none⟩ u) g 223 #[u]:=by simpa using hgk.set_ 0 u
  have hf7:=(HB.out.fr.trans (Fr.refl NoT w2).drew).trans h7.fr
  have HE:=hdq (HALL.out _ g u lo1 hi1 hf7 ⟨hgk7,leq9 hlo hg,hgk7.lt⟩ hp7 (leq9 hlo hlo7) hhi7)
  have hgc:=hgk.cell 0
  have hgf:=hgk.frozen 0
  have hgl:=hgk.lt
  simp only[List.getElem?_toArray,List.getElem?_cons_succ,List.getElem?_cons_zero]at hgc
  simp only[putM,Act.put,List.setIfInBounds_toArray,List.set_cons_zero,List.set_cons_succ]
  subst hu
  clear hI h7 hp7 hlo7 hhi7 hgk hgk7 hf7 hHeld hg hlo hall hol
  refine wpE_next 7 rfl (by kernel_rfl) (fun KK hK=>?_)
  go_simp
  refine hK _ _ (fun h=>absurd h (by decide)) ?_
  clear hK KK
  try simp only[Act.put,List.setIfInBounds_toArray,List.set_cons_zero,List.set_cons_succ]
  refine wpE_done (by kernel_rfl) ?_
  go_wp2_with fail
  go_ret
  exact HE.out
end Go.Proofs.YtfomomaomggpbaaGreatDoor
