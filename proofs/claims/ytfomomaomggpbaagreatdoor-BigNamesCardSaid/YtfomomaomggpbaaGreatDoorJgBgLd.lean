/-
  big: values: the closures of expressions. Printed by wip/gen_in/reg.py.
-/
import Derived.Test.YtfomomaomggpbaaGreatDoorJgBgMem
set_option linter.unusedVariables false
set_option linter.unusedSimpArgs false
set_option maxHeartbeats 3200000
set_option maxRecDepth 100000
namespace Go.Proofs.YtfomomaomggpbaaGreatDoor
open Go.RowKit Go.Shelf

def valH (n:Bn) (ps:List (List UInt8)) (k:Int) (nm:ByteArray) (m at_:Int) (args:Exs) (s:Bs):Ho ⊕ Int:=
 match valL n ps s args with
 | .inl h=> .inl h
 | .inr l=>headV n ps s k nm m at_ l
def InSc (n:Bn) (ps:List (List UInt8)) (nm:ByteArray):Prop:=(∃k,posI ps nm.data.toList=some k)∨∃i,posI n.vars nm.data.toList=some i
theorem posI_lt:∀ {l:List (List UInt8)} {t:List UInt8} {k:Nat},posI l t=some k→k < l.length
 | [],_,_,h=>by simp[posI]at h
 |x::r,t,k,h=>by
  unfold posI at h
  by_cases e:x=t
  ·rw[if_pos e]at h
   obtain rfl:=Option.some.inj h
   simp
  ·rw[if_neg e]at h
   cases e2:posI r t with
   |none=>rw[e2]at h;simp at h
   |some j=>
    rw[e2]at h
    simp at h
    have:=posI_lt e2
    simp only[List.length_cons]
    omega
theorem zeroPtr9 (w:World):(zeroValue 78).run Tryz.prog w= .ok (.pointer none) w:=by kernel_rfl
theorem zeroInts9 (w:World):(zeroValue 28).run Tryz.prog w= .ok (.slice none 0 0) w:=by kernel_rfl
theorem scalar_at {C:BgC} {lo hi:Nat} {w W:World} {ps:List (List UInt8)} {oc:List Nat} {nb:Nat} {s:Bs} (h:RunAt C lo hi w W ps oc nb s) {nm:ByteArray} (hs:nm.size≤9223372036854775807) (hi:InSc C.n ps nm):
  ∃b o,(∀W',Fr (C.MutO oc) W W'→(Instr.lookup 75 (.map (some nb)) (.string nm) false).run Tryz.prog W'= .ok (.pointer (some ⟨b,o,none⟩)) W')∧(∀t W',BgSt C oc t W'→W'.cell? ⟨b,o,none⟩=some (.int .i64 (getV C.n ps t nm))∧is64 (getV C.n ps t nm)∧W'.frozen? ⟨b,o,none⟩=false∧b < W'.heap.size)∧
   (∀t W' x,C.Ok→BgSt C oc t W'→is64 x→BgSt C oc (setB C.n ps t nm x) (W'.setCell ⟨b,o,none⟩ (.int .i64 x)))∧C.MutO oc b∧(C.Ok→b≠C.R):=by
 obtain⟨N,f,hm,hN,hv,hp⟩:=h.sc.map
 have hl:∀a,f nm.data.toList=some a→∀W',Fr (C.MutO oc) W W'→(Instr.lookup 75 (.map (some nb)) (.string nm) false).run Tryz.prog W'= .ok a W':=by
  intro a ha W' hf
  have:=(hm.fr hf h.sc.out).get (mt:=75) Tryz.underlying75 hs (zeroPtr9 W')
  rw[ha]at this
  exact this
 cases hk:posI ps nm.data.toList with
 |some k=>
  obtain⟨b,hb,hf⟩:=hp _ _ hk
  have hkl:=(List.getElem?_eq_some_iff.1 hb).1
  refine⟨b,0,hl _ hf,fun t W' ht=>?_,fun t W' x ho ht hx=>?_,.inr (List.mem_of_getElem? hb),fun ho e=>by have h1:=h.st.top b (List.mem_of_getElem? hb);have h2:=ho.rT;omega⟩
  ·have hlo:k < t.own.length:=by rw[ht.len];exact hkl
   have e:t.own[k]?=some (getV C.n ps t nm):=by
    unfold getV
    simp only[hk,List.getD_eq_getElem?_getD,List.getElem?_eq_getElem hlo,Option.getD_some]
   have hbk:=ht.own k b _ hb e
   exact⟨hbk.cell 0,ht.oi _ (List.mem_of_getElem? e),hbk.frozen 0,hbk.lt⟩
  ·unfold setB
   simp only[hk]
   exact ht.bgSetO ho hb hx
 |none=>
  obtain⟨i,hi⟩:∃i,posI C.n.vars nm.data.toList=some i:=by
   rcases hi with⟨k,hk'⟩|hi
   ·rw[hk]at hk';cases hk'
   ·exact hi
  refine⟨C.V,i,hl _ (hv _ _ hi),fun t W' ht=>?_,fun t W' x ho ht hx=>?_,.inl (.inr (.inl rfl)),fun ho e=>ho.rv e.symm⟩
  ·have hlo:i < t.vs.length:=by rw[ht.nv];exact posI_lt hi
   have e:t.vs[i]?=some (getV C.n ps t nm):=by
    unfold getV
    simp only[hk,hi,Option.getD_some,List.getD_eq_getElem?_getD,List.getElem?_eq_getElem hlo]
   refine⟨?_,ht.sto.i64.1 _ (List.mem_of_getElem? e),ht.sto.v.frozen i,ht.sto.v.lt⟩
   rw[ht.sto.v.cell i]
   simp[intL,e]
  ·unfold setB
   simp only[hk,hi,Option.getD_some]
   exact ht.setV ho i hx
section
variable {C:BgC} {ps:List (List UInt8)} {w:World} {lo hi q:Nat} {k:Int} {nm:ByteArray} {m at_:Int} {A:Option Addr} {l c:Nat}
theorem val_1 (ho:C.Ok) (hq:Bx lo hi w q 175 #[.int .u8 k,.string nm,.int .i64 m,.slice A l c,.int .i64 at_]) (hT:C.T≤lo) (hm:is64 m):ValP C ps (.func (.func 227) #[] #[.pointer (some ⟨q,0,none⟩)]) (fun _=> .inr m) lo hi w:=by
 refine⟨_,_,rfl,enters_of Tryz.func227 (by kernel_rfl) rfl,fun W oc nb s h=>?_⟩
 have c2:=(h.bx ho hT hq).cell 2
 simp only[List.getElem?_toArray,List.getElem?_cons_succ,List.getElem?_cons_zero]at c2
 have HQ:=hdq (show ValQ (.inr m) W (.returned (.int .i64 m)) W from⟨⟨rfl,hm⟩,Fr.refl _ _⟩)
 clear h hq hT hm ho
 show Calls Tryz.prog 227 #[.map (some nb),.pointer (some ⟨q,0,none⟩)] W _
 go_enter Tryz.func227,Tryz.ntmps227
 go_wp2_with fail
 go_ret
 exact HQ.out
theorem val_2 (ho:C.Ok) (hq:Bx lo hi w q 175 #[.int .u8 k,.string nm,.int .i64 m,.slice A l c,.int .i64 at_]) (hT:C.T≤lo) (hs:nm.size≤9223372036854775807) (hin:InSc C.n ps nm):ValP C ps (.func (.func 228) #[] #[.pointer (some ⟨q,0,none⟩)]) (fun s=> .inr (getV C.n ps s nm)) lo hi w:=by
 refine⟨_,_,rfl,enters_of Tryz.func228 (by kernel_rfl) rfl,fun W oc nb s h=>?_⟩
 have c1:=(h.bx ho hT hq).cell 1
 simp only[List.getElem?_toArray,List.getElem?_cons_succ,List.getElem?_cons_zero]at c1
 obtain⟨b,o,hl,hc,_⟩:=scalar_at h hs hin
 have hl0:=hl W (Fr.refl _ _)
 obtain⟨cb,hx,_,_⟩:=hc s W h.st
 obtain⟨x,ex⟩:=nmq (getV C.n ps s nm)
 show Calls Tryz.prog 228 #[.map (some nb),.pointer (some ⟨q,0,none⟩)] W (ValQ (.inr (getV C.n ps s nm)) W)
 rw[←ex]at cb hx ⊢
 have HQ:=hdq (show ValQ (.inr x) W (.returned (.int .i64 x)) W from⟨⟨rfl,hx⟩,Fr.refl _ _⟩)
 clear h hq hT hs ho hin hl hc ex hx
 show Calls Tryz.prog 228 #[.map (some nb),.pointer (some ⟨q,0,none⟩)] W _
 go_enter Tryz.func228,Tryz.ntmps228
 go_wp2_with fail
 go_ret
 exact HQ.out
theorem val_4:ValP C ps (.func (.func 230) #[] #[]) (fun _=> .inr 0) lo hi w:=by
 refine⟨_,_,rfl,enters_of Tryz.func230 (by kernel_rfl) rfl,fun W oc nb s h=>?_⟩
 have HQ:=hdq (show ValQ (.inr 0) W (.returned (.int .i64 0)) W from⟨⟨rfl,by unfold is64;omega⟩,Fr.refl _ _⟩)
 clear h
 show Calls Tryz.prog 230 #[.map (some nb)] W _
 go_enter Tryz.func230,Tryz.ntmps230
 go_wp2_with fail
 go_ret
 exact HQ.out
def OpS (q x1 x2:Nat) (k at_:Int) (v1 v2:Value) (W:World):Prop:=W.cell? ⟨q,0,none⟩=some (.int .u8 k)∧W.cell? ⟨q,4,none⟩=some (.int .i64 at_)∧W.cell? ⟨x1,0,none⟩=some v1∧W.cell? ⟨x2,0,none⟩=some v2
def opV (k at_:Int) (X0 X1:Bs→Ho ⊕ Int) (s:Bs):Ho ⊕ Int:=
 match X0 s with
 | .inl h=> .inl h
 | .inr a=>match X1 s with
  | .inl h=> .inl h
  | .inr b=>if opW k a b=0 then .inr (opR k a b)else .inl ⟨5,opW k a b,at_⟩
theorem val_5 {x1 x2:Nat} {v1 v2:Value} {X0 X1:Bs→Ho ⊕ Int} (ho:C.Ok) (hT:C.T≤lo) (hq:Bx lo hi w q 175 #[.int .u8 k,.string nm,.int .i64 m,.slice A l c,.int .i64 at_]) (h1:Bx lo hi w x1 278 #[v1]) (h2:Bx lo hi w x2 277 #[v2]) (hk:4≤k∧k≤11)
  (hv1:ValP C ps v1 X0 lo hi w) (hv2:ValP C ps v2 X1 lo hi w):ValP C ps (.func (.func 231) #[] #[.pointer (some ⟨x1,0,none⟩),.pointer (some ⟨q,0,none⟩),.pointer (some ⟨x2,0,none⟩)]) (opV k at_ X0 X1) lo hi w:=by
 obtain⟨g1,caps1,rfl,hg1,hcall1⟩:=hv1
 obtain⟨g2,caps2,rfl,hg2,hcall2⟩:=hv2
 refine⟨_,_,rfl,enters_of Tryz.func231 (by kernel_rfl) rfl,fun W oc nb s h=>?_⟩
 have hs:∀W',Fr NoT W W'→OpS q x1 x2 k at_ (.func (.func g1) #[] caps1) (.func (.func g2) #[] caps2) W':=fun W' hf=>
  have h':=h.fr0 ho hf
  ⟨(h'.bx ho hT hq).cell 0,(h'.bx ho hT hq).cell 4,(h'.bx ho hT h1).cell 0,(h'.bx ho hT h2).cell 0⟩
 have hs0:=hs W (Fr.refl _ _)
 have HS:=hdq hs
 have HC2:=hdq (fun(W':World) (hf:Fr NoT W W')=>hcall2 W' oc nb s (h.fr0 ho hf))
 have HA:=hdq (fun a b (W':World) (ha:is64 a) (hb:is64 b)=>apply_any k a b W' hk.1 hk.2 ha hb)
 have HC1:=hdq (hcall1 W oc nb s h)
 obtain⟨c0,_,c1,_⟩:=hs0
 obtain⟨r,hr⟩:=nmq (opV k at_ X0 X1 s)
 unfold Enters at hg1 hg2
 clear hcall1 hcall2 h hs hq h1 h2 hk ho hT
 show Calls Tryz.prog 231 #[.map (some nb),.pointer (some ⟨x1,0,none⟩),.pointer (some ⟨q,0,none⟩),.pointer (some ⟨x2,0,none⟩)] W (ValQ (opV k at_ X0 X1 s) W)
 rw[←hr]
 have HV:=hdq hr
 clear hr
 go_enter Tryz.func231,Tryz.ntmps231
 go_wp2_with fail
 refine HC1.out.mono ?_
 rintro e w1 ⟨he,hf1⟩
 rcases hx0:X0 s with ho0|a
 ·rw[hx0]at he
  obtain rfl:=he
  exact⟨rfl,by rw[HV.out];unfold opV;rw[hx0];rfl,hf1⟩
 rw[hx0]at he
 obtain⟨rfl,ha⟩:=he
 have HF1:=hdq hf1
 have HA64:=hdq ha
 clear hf1 ha c0 c1
 go_wp2_with fail
 refine wp_region_E (OpS q x1 x2 k at_ (.func (.func g1) #[] caps1) (.func (.func g2) #[] caps2)) (fun _=>true) (by kernel_rfl) (HS.out _ (HF1.out.drew)) (fun hHeld=>?_)
 refine wpE_pu 0 ?_
 try simp only[Act.put,List.setIfInBounds_toArray,List.set_cons_zero,List.set_cons_succ]
 refine wpE_pu 2 ?_
 try simp only[Act.put,List.setIfInBounds_toArray,List.set_cons_zero,List.set_cons_succ]
 refine wpE_pu 4 ?_
 try simp only[Act.put,List.setIfInBounds_toArray,List.set_cons_zero,List.set_cons_succ]
 refine wpE_tv 1 hHeld ?_
 try simp only[Act.put,List.setIfInBounds_toArray,List.set_cons_zero,List.set_cons_succ]
 refine wpE_tv 3 hHeld ?_
 try simp only[Act.put,List.setIfInBounds_toArray,List.set_cons_zero,List.set_cons_succ]
 refine wpE_next 5 rfl (by kernel_rfl) (fun KK hK=>?_)
 go_simp
 refine(HC2.out _ HF1.out.drew).mono ?_
 rintro e w2 ⟨he,hf2⟩
 rcases hx1:X1 s with ho1|b
 ·rw[hx1]at he
  obtain rfl:=he
  exact⟨rfl,by rw[HV.out];unfold opV;rw[hx0,hx1];rfl,HF1.out.drew.trans hf2⟩
 rw[hx1]at he
 obtain⟨rfl,hb⟩:=he
 have HF2:=hdq (HF1.out.drew.trans hf2)
 have HB64:=hdq hb
 clear hf2 hb
 try dsimp only
 refine hK _ _ (fun _ _=>HS.out _ HF2.out) ?_
 clear hK KK
 try simp only[Act.put,List.setIfInBounds_toArray,List.set_cons_zero,List.set_cons_succ]
 refine wpE_next 6 rfl (by kernel_rfl) (fun KK hK=>?_)
 go_simp
 go_at_call 157
 refine(HA.out _ _ _ HA64.out HB64.out).mono ?_
 rintro _ w3 ⟨rfl,hf3⟩
 have HF3:=hdq (HF2.out.trans (Fr.below hf3))
 clear hf3
 try dsimp only
 refine hK _ _ (fun _ _=>HS.out _ HF3.out) ?_
 clear hK KK
 try simp only[Act.put,List.setIfInBounds_toArray,List.set_cons_zero,List.set_cons_succ]
 refine wpE_pu 7 ?_
 try simp only[Act.put,List.setIfInBounds_toArray,List.set_cons_zero,List.set_cons_succ]
 refine wpE_pu 8 ?_
 try simp only[Act.put,List.setIfInBounds_toArray,List.set_cons_zero,List.set_cons_succ]
 refine wpE_pu 11 ?_
 try simp only[Act.put,List.setIfInBounds_toArray,List.set_cons_zero,List.set_cons_succ]
 refine wpE_pu 9 ?_
 try simp only[Act.put,List.setIfInBounds_toArray,List.set_cons_zero,List.set_cons_succ]
 refine wpE_pu 12 ?_
 try simp only[Act.put,List.setIfInBounds_toArray,List.set_cons_zero,List.set_cons_succ]
 refine wpE_pu 10 ?_
 try simp only[Act.put,List.setIfInBounds_toArray,List.set_cons_zero,List.set_cons_succ]
 refine wpE_pu 13 ?_
 try simp only[Act.put,List.setIfInBounds_toArray,List.set_cons_zero,List.set_cons_succ]
 refine wpE_done (by kernel_rfl) ?_
 by_cases hv:opW k a b=0
 ·have e1:(opW k a b != 0)=false:=by simpa using hv
  have HE:=hdq (show valEnd r (.returned (.int .i64 (opR k a b))) by rw[HV.out];unfold opV;rw[hx0,hx1];simp only[if_pos hv];exact⟨rfl,is64_opR _ _ _ HA64.out⟩)
  clear hv
  go_wp2_with fail
  go_ret
  exact⟨HE.out,HF3.out⟩
 ·have e1:(opW k a b != 0)=true:=by simpa using hv
  have HE:=hdq (show valEnd r (endE ⟨5,opW k a b,at_⟩) by rw[HV.out];unfold opV;rw[hx0,hx1];simp only[if_neg hv];rfl)
  have hs3:=HS.out _ HF3.out
  have c4:=hs3.2.1
  clear hv
  go_wp2_with fail
  exact⟨rfl,HE.out,HF3.out⟩
end
end Go.Proofs.YtfomomaomggpbaaGreatDoor

namespace Go.Proofs.YtfomomaomggpbaaGreatDoor
open Go.RowKit Go.Shelf

section
variable {C:BgC} {ps:List (List UInt8)} {w:World} {lo hi q:Nat} {k:Int} {nm:ByteArray} {m at_:Int} {A:Option Addr} {l c:Nat}
def LdS (C:BgC) (p q x1:Nat) (nm:ByteArray) (at_:Int) (v1 vs:Value) (W:World):Prop:=W.cell? ⟨p,0,none⟩=some (.pointer (some ⟨C.P,0,none⟩))∧W.cell? ⟨C.P,1,none⟩=some (.map (some C.MA))∧W.cell? ⟨q,1,none⟩=some (.string nm)∧W.cell? ⟨q,4,none⟩=some (.int .i64 at_)∧W.cell? ⟨x1,0,none⟩=some v1∧
 (Instr.lookup 70 (.map (some C.MA)) (.string nm) false).run Tryz.prog W= .ok vs W
def ldV (n:Bn) (nm:ByteArray) (at_:Int) (X0:Bs→Ho ⊕ Int) (s:Bs):Ho ⊕ Int:=
 match X0 s with
 | .inl h=> .inl h
 | .inr a=>if 0≤a∧a < (s.ls.getD (arrI n nm) []).length then .inr ((s.ls.getD (arrI n nm) []).getD a.toNat 0)else .inl ⟨5,5,at_⟩
theorem array_at (hpg:PgAt C w) {nm:ByteArray} (hs:nm.size≤9223372036854775807) {i:Nat} (hia:posI C.n.arrs nm.data.toList=some i) {s:Bs} {oc:List Nat} {W:World} (hst:BgSt C oc s W):
  ∃b l,C.bs[i]?=some b∧s.ls[i]?=some l∧s.ls.getD (arrI C.n nm) []=l∧l.length≤1000∧Bk W b 3 (intL l).toArray ∧(∀x∈l,is64 x)∧(Instr.lookup 70 (.map (some C.MA)) (.string nm) false).run Tryz.prog w= .ok (.slice (some ⟨b,0,none⟩) l.length l.length) w:=by
 obtain⟨N,f,hm,hf⟩:=hpg.ma
 obtain⟨b,hb,hl⟩:=hf _ _ hia
 have hil:i < s.ls.length:=by rw[hst.na];exact posI_lt hia
 obtain⟨l,e⟩:∃l,s.ls[i]?=some l:=⟨_,List.getElem?_eq_getElem hil⟩
 have hv:=hl s oc W l hst e
 have:=hm.get (mt:=70) Tryz.underlying70 hs (zeroInts9 w)
 rw[hv]at this
 refine⟨b,l,hb,e,?_,hst.sto.few.2.2 l (List.mem_of_getElem? e),(hst.sto.each i b l hb e).2,fun x hx=>hst.sto.i64.2 l (List.mem_of_getElem? e) x hx,this⟩
 unfold arrI
 rw[hia,Option.getD_some,List.getD_eq_getElem?_getD,e,Option.getD_some]
theorem val_3 {p x1:Nat} {v1:Value} {X0:Bs→Ho ⊕ Int} {i:Nat} (ho:C.Ok) (hT:C.T≤lo) (hpg:PgAt C w) (hp:Bx lo hi w p 69 #[.pointer (some ⟨C.P,0,none⟩)]) (hq:Bx lo hi w q 175 #[.int .u8 k,.string nm,.int .i64 m,.slice A l c,.int .i64 at_])
  (h1:Bx lo hi w x1 278 #[v1]) (hs:nm.size≤9223372036854775807) (hia:posI C.n.arrs nm.data.toList=some i) (hv1:ValP C ps v1 X0 lo hi w):
  ValP C ps (.func (.func 229) #[] #[.pointer (some ⟨p,0,none⟩),.pointer (some ⟨q,0,none⟩),.pointer (some ⟨x1,0,none⟩)]) (ldV C.n nm at_ X0) lo hi w:=by
 obtain⟨g1,caps1,rfl,hg1,hcall1⟩:=hv1
 refine⟨_,_,rfl,enters_of Tryz.func229 (by kernel_rfl) rfl,fun W oc nb s h=>?_⟩
 obtain⟨b,l,hb,hl,hgl,hl1,hbk,h64,_⟩:=array_at (hpg.later ho h.lat) hs hia h.st
 have hS:∀W',Fr NoT W W'→LdS C p q x1 nm at_ (.func (.func g1) #[] caps1) (.slice (some ⟨b,0,none⟩) l.length l.length) W':=fun W' hf=>by
  have h':=h.fr0 ho hf
  have hla:=h'.lat
  obtain⟨b',l',hb',hl',_,_,_,_,hlk⟩:=array_at (hpg.later ho hla) hs hia (h.st.fr0 ho hf)
  rw[hb]at hb'
  rw[hl]at hl'
  obtain rfl:=Option.some.inj hb'
  obtain rfl:=Option.some.inj hl'
  exact⟨(h'.bx ho hT hp).cell 0,(hpg.later ho hla).p.cell 1,(h'.bx ho hT hq).cell 1,(h'.bx ho hT hq).cell 4,(h'.bx ho hT h1).cell 0,hlk⟩
 have HS:=hdq hS
 have HC1:=hdq (fun(W':World) (hf:Fr NoT W W')=>hcall1 W' oc nb s (h.fr0 ho hf))
 have HB:=hdq (fun(W':World) (hf:Fr NoT W W')=>hbk.fr0 hf)
 obtain⟨r,hr⟩:=nmq (ldV C.n nm at_ X0 s)
 have HE:=hdq (fun(W':World)=>element_any b l.length)
 have H64:=hdq h64
 obtain⟨z,hz⟩:=nmq l.length
 have HZ:=hdq hz
 have HGL:=hdq hgl
 unfold Enters at hg1
 rw[←hz]at HS HE hl1
 show Calls Tryz.prog 229 #[.map (some nb),.pointer (some ⟨p,0,none⟩),.pointer (some ⟨q,0,none⟩),.pointer (some ⟨x1,0,none⟩)] W (ValQ (ldV C.n nm at_ X0 s) W)
 rw[←hr]
 have HV:=hdq hr
 clear hr hS hcall1 h hq hp hpg h1 ho hT hb hl hgl hbk h64 hz hs hia
 go_enter Tryz.func229,Tryz.ntmps229
 go_wp2_with fail
 refine wp_region_E (LdS C p q x1 nm at_ (.func (.func g1) #[] caps1) (.slice (some ⟨b,0,none⟩) z z)) (fun _=>true) (by kernel_rfl) (HS.out _ (Fr.refl NoT W).drew) (fun hHeld=>?_)
 refine wpE_pu 4 ?_
 try simp only[Act.put,List.setIfInBounds_toArray,List.set_cons_zero,List.set_cons_succ]
 refine wpE_pu 8 ?_
 try simp only[Act.put,List.setIfInBounds_toArray,List.set_cons_zero,List.set_cons_succ]
 refine wpE_pu 10 ?_
 try simp only[Act.put,List.setIfInBounds_toArray,List.set_cons_zero,List.set_cons_succ]
 refine wpE_tv 0 hHeld ?_
 try simp only[Act.put,List.setIfInBounds_toArray,List.set_cons_zero,List.set_cons_succ]
 refine wpE_tv 5 hHeld ?_
 try simp only[Act.put,List.setIfInBounds_toArray,List.set_cons_zero,List.set_cons_succ]
 refine wpE_tv 7 hHeld ?_
 try simp only[Act.put,List.setIfInBounds_toArray,List.set_cons_zero,List.set_cons_succ]
 refine wpE_tv 11 hHeld ?_
 try simp only[Act.put,List.setIfInBounds_toArray,List.set_cons_zero,List.set_cons_succ]
 refine wpE_pu 1 ?_
 try simp only[Act.put,List.setIfInBounds_toArray,List.set_cons_zero,List.set_cons_succ]
 refine wpE_pu 2 ?_
 try simp only[Act.put,List.setIfInBounds_toArray,List.set_cons_zero,List.set_cons_succ]
 refine wpE_tv 3 hHeld ?_
 try simp only[Act.put,List.setIfInBounds_toArray,List.set_cons_zero,List.set_cons_succ]
 refine wpE_tv 6 hHeld ?_
 try simp only[Act.put,List.setIfInBounds_toArray,List.set_cons_zero,List.set_cons_succ]
 refine wpE_next 9 rfl (by kernel_rfl) (fun KK hK=>?_)
 go_simp
 refine(HC1.out _ (Fr.refl NoT W).drew).mono ?_
 rintro e w2 ⟨he,hf2⟩
 rcases hx0:X0 s with ho0|a
 ·rw[hx0]at he
  obtain rfl:=he
  exact⟨rfl,by rw[HV.out];unfold ldV;rw[hx0];rfl,(Fr.refl NoT W).drew.trans hf2⟩
 rw[hx0]at he
 obtain⟨rfl,ha⟩:=he
 have HF2:=hdq ((Fr.refl NoT W).drew.trans hf2)
 clear hf2
 try dsimp only
 refine hK _ _ (fun _ _=>HS.out _ HF2.out) ?_
 clear hK KK
 try simp only[Act.put,List.setIfInBounds_toArray,List.set_cons_zero,List.set_cons_succ]
 refine wpE_next 12 rfl (by kernel_rfl) (fun KK hK=>?_)
 go_simp
 go_at_call 177
 refine(HE.out w2 a at_ hl1 _).mono ?_
 rintro e w3 ⟨rfl,hel⟩
 rcases hel with⟨h0,h1,rfl⟩|⟨h0,rfl⟩
 case inr=>exact⟨rfl,by rw[HV.out];unfold ldV;rw[hx0,HGL.out];simp only;rw[←HZ.out,if_neg h0];rfl,HF2.out⟩
 obtain⟨j,rfl⟩:∃j:Nat,a=j:=⟨a.toNat,by omega⟩
 have hjl:j < l.length:=by rw[←HZ.out];omega
 obtain⟨x,hx⟩:∃x,l[j]?=some x:=⟨_,List.getElem?_eq_getElem hjl⟩
 have hcl:=(HB.out _ HF2.out).cell j
 simp only[List.getElem?_toArray,intL,List.getElem?_map,hx,Option.map_some]at hcl
 have HR:=hdq (show valEnd r (.returned (.int .i64 x)) by
  rw[HV.out];unfold ldV;rw[hx0,HGL.out];simp only
  rw[←HZ.out,if_pos ⟨h0,h1⟩,Int.toNat_natCast,List.getD_eq_getElem?_getD,hx]
  exact⟨rfl,H64.out x (List.mem_of_getElem? hx)⟩)
 clear hx hjl h0 h1 ha
 try dsimp only
 rw[Int.toNat_natCast]
 refine hK _ _ (fun _ h=>h) ?_
 clear hK KK
 try simp only[Act.put,List.setIfInBounds_toArray,List.set_cons_zero,List.set_cons_succ]
 refine wpE_pu 13 ?_
 try simp only[Act.put,List.setIfInBounds_toArray,List.set_cons_zero,List.set_cons_succ]
 refine wpE_next 14 rfl (by kernel_rfl) (fun KK hK=>?_)
 go_simp
 refine hK _ _ (fun _ h=>h) ?_
 clear hK KK
 try simp only[Act.put,List.setIfInBounds_toArray,List.set_cons_zero,List.set_cons_succ]
 refine wpE_pu 15 ?_
 try simp only[Act.put,List.setIfInBounds_toArray,List.set_cons_zero,List.set_cons_succ]
 refine wpE_done (by kernel_rfl) ?_
 go_wp2_with fail
 go_ret
 exact⟨HR.out,HF2.out⟩
end
end Go.Proofs.YtfomomaomggpbaaGreatDoor

namespace Go.Proofs.YtfomomaomggpbaaGreatDoor
open Go.RowKit Go.Shelf

def hdX (n:Bn) (ps:List (List UInt8)) (k:Int) (nm:ByteArray) (args:Exs):Prop:=(1≤k∧k≤11)∧nm.size≤9223372036854775807∧(k=2→InSc n ps nm)∧(k=3→∃i,posI n.arrs nm.data.toList=some i)∧(k≤2→args.len=0)∧(k=3∨k=4→args.len=1)∧(5≤k→args.len=2)
def wfX (n:Bn) (ps:List (List UInt8)):Exs→Prop
 | .nil =>True
 | .cons k nm _ args _ r=>hdX n ps k nm args∧wfX n ps args∧wfX n ps r
def MkV (C:BgC) (ps:List (List UInt8)) (X:Bs→Ho ⊕ Int) (W:World) (e:Ending) (w':World):Prop:=∃val,e= .returned val∧Fr NoT W w'∧ValP C ps val X W.heap.size w'.heap.size w'
def ExpC (C:BgC) (ps:List (List UInt8)) (k:Int) (nm:ByteArray) (m:Int) (args:Exs) (at_:Int):Prop:=
 ∀(W:World) (S:Nat→Prop) (Z:Prop) (A:Option Addr) (c:Nat),C.T≤W.heap.size→PgAt C W→(∀x,S x→x < C.B)→in64 m→SlR (fun b o=>ExR W S Z args b o) args.len 64 A c→
  Calls Tryz.prog 175 #[.pointer (some ⟨C.P,0,none⟩),.agg #[.int .u8 k,.string nm,.int .i64 m,.slice A args.len c,.int .i64 at_]] W (MkV C ps (valH C.n ps k nm m at_ args) W)
def boxE (C:BgC) (W:World) (k:Int) (nm:ByteArray) (m:Int) (A:Option Addr) (l c:Nat) (at_:Int):World:=(W.alloc (.cells #[.pointer (some ⟨C.P,0,none⟩)] 69)).alloc (.cells #[.int .u8 k,.string nm,.int .i64 m,.slice A l c,.int .i64 at_] 175)
structure BxE (C:BgC) (W w:World) (k:Int) (nm:ByteArray) (m:Int) (A:Option Addr) (l c:Nat) (at_:Int):Prop where
 fr:Fr NoT W w
 p:Bk w W.heap.size 69 #[.pointer (some ⟨C.P,0,none⟩)]
 q:Bk w (W.heap.size+1) 175 #[.int .u8 k,.string nm,.int .i64 m,.slice A l c,.int .i64 at_]
section
variable {C:BgC} {ps:List (List UInt8)} {W w w':World} {k:Int} {nm:ByteArray} {m:Int} {A:Option Addr} {l c:Nat} {at_:Int}
theorem boxE_at:BxE C W (boxE C W k nm m A l c at_) k nm m A l c at_:=⟨((Fr.refl _ _).alloc _).alloc _,(Bk.new _ _ _).alloc _,Bk.new_at _ _ _ (by simp)⟩
theorem BxE.next (h:BxE C W w k nm m A l c at_) (hf:Fr NoT w w'):BxE C W w' k nm m A l c at_:=⟨h.fr.trans hf,h.p.fr0 hf,h.q.fr0 hf⟩
theorem BxE.bp (h:BxE C W w k nm m A l c at_):Bx W.heap.size w.heap.size w W.heap.size 69 #[.pointer (some ⟨C.P,0,none⟩)]:=⟨h.p,lrq _,h.p.lt⟩
theorem BxE.bq (h:BxE C W w k nm m A l c at_):Bx W.heap.size w.heap.size w (W.heap.size+1) 175 #[.int .u8 k,.string nm,.int .i64 m,.slice A l c,.int .i64 at_]:=⟨h.q,Nat.le_succ _,h.q.lt⟩
theorem ValP.eq {X Y:Bs→Ho ⊕ Int} {val:Value} {lo hi:Nat} (h:ValP C ps val X lo hi w) (e:X=Y):ValP C ps val Y lo hi w:=e▸h
theorem is_of {n:Int} (h:in64 n):is64 n:=by unfold in64 at h;unfold is64;omega
theorem Exs.len0:∀ {xs:Exs},xs.len=0→xs= .nil
 | .nil,_=>rfl
 | .cons _ _ _ _ _ _,h=>by simp[Exs.len]at h
theorem exp_leaf (ho:C.Ok) (args:Exs) (hd:hdX C.n ps k nm args) (hk:k≤2):ExpC C ps k nm m args at_:=by
 intro W S Z A c hT hpg hS hm hx
 obtain⟨⟨h1,_⟩,hs,hi,_,h0,_⟩:=hd
 obtain rfl:=Exs.len0 (h0 hk)
 have hB:=boxE_at (C:=C) (W:=W) (k:=k) (nm:=nm) (m:=m) (A:=A) (l:=Exs.nil.len) (c:=c) (at_:=at_)
 rcases(show k=1∨k=2 from by omega)with rfl|rfl
 ·have HV:=hdq (val_1 (ps:=ps) ho hB.bq hT (is_of hm))
  have HF:=hdq hB.fr
  unfold boxE at HV HF
  clear hT hpg hS hm hx hs hi h0 hB h1 hk
  go_enter Tryz.func175,Tryz.ntmps175
  go_wp2_with fail
  go_ret
  exact⟨_,rfl,HF.out,HV.out⟩
 ·have HV:=hdq (val_2 (ps:=ps) ho hB.bq hT hs (hi rfl))
  have HF:=hdq hB.fr
  unfold boxE at HV HF
  clear hT hpg hS hm hx hs hi h0 hB h1 hk
  go_enter Tryz.func175,Tryz.ntmps175
  go_wp2_with fail
  go_ret
  exact⟨_,rfl,HF.out,HV.out⟩
end
def ExS (p q b o:Nat) (P A:Option Addr) (l c:Nat) (v0 v1 v2 v3 v4:Value) (W:World):Prop:=W.cell? ⟨p,0,none⟩=some (.pointer P)∧W.cell? ⟨q,3,none⟩=some (.slice A l c)∧W.cell? ⟨b,o,none⟩=some v0∧W.cell? ⟨b,o+1,none⟩=some v1∧W.cell? ⟨b,o+2,none⟩=some v2∧W.cell? ⟨b,o+3,none⟩=some v3∧W.cell? ⟨b,o+4,none⟩=some v4
def PpE (C:BgC) (ps:List (List UInt8)) (X:Bs→Ho ⊕ Int):Nat→Value→Nat→Nat→World→Prop:=fun p v lo hi w=>if p=0 then ValP C ps v X lo hi w∧hi≤w.heap.size∧C.T≤w.heap.size else NewB 278 .nilFunc v lo hi w
theorem PpE.on (C:BgC) (ps:List (List UInt8)) (X:Bs→Ho ⊕ Int):OnK C.T (PpE C ps X):=fun p v lo hi w w' hs h=>by
 unfold PpE at h ⊢
 by_cases e:p=0
 ·rw[if_pos e]at h ⊢
  exact⟨h.1.later (Later.same hs h.2.1 h.2.2),leq9 h.2.1 hs.1,leq9 h.2.2 hs.1⟩
 ·rw[if_neg e]at h ⊢
  exact h.same hs
theorem one_alone {xs:Exs} {k nm m a t r} (e:xs= .cons k nm m a t r) (h:xs.len=1):r= .nil :=by
 subst e
 exact Exs.len0 (by simpa[Exs.len]using h)
theorem valL_one (n:Bn) (ps:List (List UInt8)) (s:Bs) (k nm m a t):valL n ps s (.cons k nm m a t .nil)=(match valH n ps k nm m t a s with| .inl h=> .inl h| .inr x=> .inr [x]):=by
 simp only[valL,valH]
 rcases valL n ps s a with h|l
 ·rfl
 ·simp only
  rcases headV n ps s k nm m t l with h|x<;>rfl
theorem valL_two (n:Bn) (ps:List (List UInt8)) (s:Bs) (k nm m a t r):valL n ps s (.cons k nm m a t r)=(match valH n ps k nm m t a s with| .inl h=> .inl h| .inr x=>match valL n ps s r with| .inl h=> .inl h| .inr q=> .inr (x::q)):=by
 simp only[valL,valH]
 rcases valL n ps s a with h|l
 ·rfl
 ·simp only
  rcases headV n ps s k nm m t l with h|x<;>rfl
theorem valH_3 (n:Bn) (ps:List (List UInt8)) (nm m at_ k0 n0 m0 a0 t0):ldV n nm at_ (valH n ps k0 n0 m0 t0 a0)=valH n ps 3 nm m at_ (.cons k0 n0 m0 a0 t0 .nil):=by
 funext s
 show ldV n nm at_ (valH n ps k0 n0 m0 t0 a0) s=(match valL n ps s (.cons k0 n0 m0 a0 t0 .nil)with| .inl h=> .inl h| .inr l=>headV n ps s 3 nm m at_ l)
 rw[valL_one]
 unfold ldV
 rcases valH n ps k0 n0 m0 t0 a0 s with h|x
 ·rfl
 ·rfl
theorem valH_4 (n:Bn) (ps:List (List UInt8)) (nm m at_ k0 n0 m0 a0 t0):opV 4 at_ (valH n ps k0 n0 m0 t0 a0) (fun _=> .inr 0)=valH n ps 4 nm m at_ (.cons k0 n0 m0 a0 t0 .nil):=by
 funext s
 show opV 4 at_ (valH n ps k0 n0 m0 t0 a0) _ s=(match valL n ps s (.cons k0 n0 m0 a0 t0 .nil)with| .inl h=> .inl h| .inr l=>headV n ps s 4 nm m at_ l)
 rw[valL_one]
 unfold opV
 rcases valH n ps k0 n0 m0 t0 a0 s with h|x
 ·rfl
 ·rfl
theorem valH_5 (n:Bn) (ps:List (List UInt8)) (k:Int) (hk:5≤k) (nm m at_ k0 n0 m0 a0 t0 k1 n1 m1 a1 t1):opV k at_ (valH n ps k0 n0 m0 t0 a0) (valH n ps k1 n1 m1 t1 a1)=valH n ps k nm m at_ (.cons k0 n0 m0 a0 t0 (.cons k1 n1 m1 a1 t1 .nil)):=by
 funext s
 show opV k at_ (valH n ps k0 n0 m0 t0 a0) _ s=(match valL n ps s (.cons k0 n0 m0 a0 t0 (.cons k1 n1 m1 a1 t1 .nil))with| .inl h=> .inl h| .inr l=>headV n ps s k nm m at_ l)
 rw[valL_two,valL_one]
 unfold opV
 rcases valH n ps k0 n0 m0 t0 a0 s with h|x
 ·rfl
 ·rcases valH n ps k1 n1 m1 t1 a1 s with h|y
  ·rfl
  ·have h9:headV n ps s k nm m at_ [x,y]=if opW k x y=0 then .inr (opR k x y)else .inl ⟨5,opW k x y,at_⟩:=by
    unfold headV
    rw[if_neg (by omega),if_neg (by omega),if_neg (by omega)]
    rfl
   exact h9.symm
theorem exp_more (C:BgC) (ps:List (List UInt8)) (ho:C.Ok) (k:Int) (nm:ByteArray) (m:Int) (args:Exs) (at_:Int) (hd:hdX C.n ps k nm args) (hk:3≤k) (k0 n0 m0 a0 t0 r0) (e:args= .cons k0 n0 m0 a0 t0 r0) (h0:ExpC C ps k0 n0 m0 a0 t0)
  (h1:∀k1 n1 m1 a1 t1 r1,r0= .cons k1 n1 m1 a1 t1 r1→ExpC C ps k1 n1 m1 a1 t1):ExpC C ps k nm m args at_:=by
 intro W S Z A c hT hpg hS hm hx
 obtain⟨b0,o0,rfl,hat⟩:=hx.2.2 (by rw[e];simp[Exs.len])
 rw[e]at hat
 obtain⟨⟨hbS,_,_,hm0,_,e0,e1,e2,e4⟩,⟨A1,c1,e3,s1⟩,hat2⟩:=hat
 obtain⟨⟨_,h11⟩,hs,_,hia,_,ha1,ha2⟩:=hd
 obtain⟨l,hl⟩:=nmq args.len
 have hl0:0 < l:=by rw[hl,e];simp[Exs.len]
 have hlm:l≤9223372036854775807:=by rw[hl];exact leq9 hx.1 hx.2.1.1
 obtain⟨l1,hl1⟩:=nmq a0.len
 rw[←hl1]at e3
 obtain⟨w2,hw2⟩:=nmq (boxE C W k nm m (some ⟨b0,o0,none⟩) l c at_)
 have hB:BxE C W w2 k nm m (some ⟨b0,o0,none⟩) l c at_:=by rw[hw2];exact boxE_at
 have hBW:C.B≤W.heap.size:=by have h1:=ho.br;have h2:=ho.rT;omega
 have hbW:b0 < W.heap.size:=ltq (hS _ hbS) hBW
 have hT2:C.T≤w2.drew.heap.size:=leq9 hT hB.fr.size
 have hsm:∀w',Fr NoT W w'→SameS S W w':=fun w' hf=>hf.same fun b hb=>⟨ltq (hS b hb) hBW,id⟩
 have hpl:∀w',Fr NoT W w'→PgAt C w':=fun w' hf=>hpg.later ho (Later.of0 (lo:=0) (hi:=0) hf (Nat.zero_le _) hT)
 have hcall:∀w',Fr NoT W w'→_:=fun w' hf=>h0 w' S Z A1 c1 (leq9 hT hf.size) (hpl w' hf) hS hm0 (s1.imp fun _ _ hx=>ExR.keep (hsm w' hf) hx)
 have hs2:∀w',Fr NoT w2 w'→ExS W.heap.size (W.heap.size+1) b0 o0 (some ⟨C.P,0,none⟩) (some ⟨b0,o0,none⟩) l c (.int .u8 k0) (.string n0) (.int .i64 m0) (.slice A1 l1 c1) (.int .i64 t0) w':=fun w' hf=>
  have hf2:=hB.fr.trans hf
  ⟨(hB.next hf).p.cell 0,(hB.next hf).q.cell 3,(hf2.cell hbW id).trans e0,(hf2.cell hbW id).trans e1,(hf2.cell hbW id).trans e2,(hf2.cell hbW id).trans e3,(hf2.cell hbW id).trans e4⟩
 have hall:∀w7 x1 v1 lo1 hi1,Fr NoT W w7→BxE C W w7 k nm m (some ⟨b0,o0,none⟩) l c at_→Bx W.heap.size w7.heap.size w7 x1 278 #[v1]→ValP C ps v1 (valH C.n ps k0 n0 m0 t0 a0) lo1 hi1 w7→W.heap.size≤lo1→hi1≤w7.heap.size→
   (k=3→MkV C ps (valH C.n ps k nm m at_ args) W (.returned (.func (.func 229) #[] #[.pointer (some ⟨W.heap.size,0,none⟩),.pointer (some ⟨W.heap.size+1,0,none⟩),.pointer (some ⟨x1,0,none⟩)])) w7)∧
   (k≠3→∀w9 x2 v2 X1,Fr NoT w7 w9→Bx W.heap.size w9.heap.size w9 x2 277 #[v2]→ValP C ps v2 X1 W.heap.size w9.heap.size w9→opV k at_ (valH C.n ps k0 n0 m0 t0 a0) X1=valH C.n ps k nm m at_ args→
    MkV C ps (valH C.n ps k nm m at_ args) W (.returned (.func (.func 231) #[] #[.pointer (some ⟨x1,0,none⟩),.pointer (some ⟨W.heap.size+1,0,none⟩),.pointer (some ⟨x2,0,none⟩)])) w9):=by
  intro w7 x1 v1 lo1 hi1 hf7 hB7 hx1 hv1 hlo hhi
  refine⟨fun k3=>?_,fun k3 w9 x2 v2 X1 hf9 hx2 hv2 he=>?_⟩
  ·obtain⟨i,hi⟩:=hia k3
   refine⟨_,rfl,hf7,(val_3 ho hT (hpl _ hf7) hB7.bp hB7.bq hx1 hs hi (hv1.wide hlo hhi)).eq ?_⟩
   have hr:=one_alone e (ha1 (.inl k3))
   subst k3 hr e
   exact valH_3 ..
  ·have hB9:=hB7.next hf9
   refine⟨_,rfl,hf7.trans hf9,(val_5 ho hT hB9.bq ⟨hx1.1.fr0 hf9,hx1.2.1,ltq hx1.2.2 hf9.size⟩ hx2 ⟨by omega,h11⟩ ((hv1.later (Later.of0 hf9 hhi (leq9 hT hf7.size))).wide hlo (leq9 hhi hf9.size)) hv2).eq he⟩
 rw[←hl1]at hcall
 have HS2:=hdq hs2
 have HC:=hdq hcall
 have HB:=hdq hB
 have HALL:=hdq hall
 unfold boxE at hw2
 have HW:=hdq hw2
 have HT2:=hdq hT2
 rw[←hl]
 have q1:(k==1)=false:=by simp;omega
 have q2:(k==2)=false:=by simp;omega
 have HX:=hdq (aiq hat2 (aiq hS (aiq hbS (aiq hBW (aiq hT (aiq e (aiq hl (aiq hk (aiq ha1 (aiq ha2 (aiq h1 (aiq hpl hsm))))))))))))
 clear hs2 hcall hB hall hw2 hT2 hat2 hS hbS hBW hT e hl hk ha1 ha2 h1 hpl hsm hx hm hm0 hpg e0 e1 e2 e3 e4 s1 h11 hs hia hl1 hbW h0
 go_enter Tryz.func175,Tryz.ntmps175
 go_wp2_with fail
 rw[←HW.out]
 refine wp_region_E (ExS W.heap.size (W.heap.size+1) b0 o0 (some ⟨C.P,0,none⟩) (some ⟨b0,o0,none⟩) l c (.int .u8 k0) (.string n0) (.int .i64 m0) (.slice A1 l1 c1) (.int .i64 t0)) (fun i=>decide (i < 7)) (by kernel_rfl) (HS2.out _ (Fr.refl _ _).drew) (fun hHeld=>?_)
 refine wpE_pu 1 ?_
 try simp only[Act.put,List.setIfInBounds_toArray,List.set_cons_zero,List.set_cons_succ]
 refine wpE_tv 0 hHeld ?_
 try simp only[Act.put,List.setIfInBounds_toArray,List.set_cons_zero,List.set_cons_succ]
 refine wpE_tv 2 hHeld ?_
 try simp only[Act.put,List.setIfInBounds_toArray,List.set_cons_zero,List.set_cons_succ]
 refine wpE_pu 3 ?_
 try simp only[Act.put,List.setIfInBounds_toArray,List.set_cons_zero,List.set_cons_succ]
 refine wpE_tv 4 hHeld ?_
 try simp only[Act.put,List.setIfInBounds_toArray,List.set_cons_zero,List.set_cons_succ]
 refine wpE_manyA 2 [5,6] [20,5] (fun _=>true) (fun o w=>ManyI w2.drew (PpE C ps (valH C.n ps k0 n0 m0 t0 a0)) o w) rfl (by decide) (by kernel_rfl) rfl (fun o w h=>HS2.out _ ((Fr.refl _ _).drew.trans h.fr)) (by kernel_rfl) rfl (fun o w p i hI hol hip hop _=>?_) (fun o w hI hol hall=>?_) (ManyI.zero _ _)
 ·obtain⟨u,v,rfl⟩:=two_of hol
  rcases p with _|_|p
  ·simp at hip hop
   subst hip hop
   cases v
   all_goals
    simp only[putM,Act.put,List.setIfInBounds_toArray,List.set_cons_zero,List.set_cons_succ]
    refine wpOp_step (at_dropE rfl) (fun KK hK=>?_)
    go_simp
    go_at_call 175
    refine(HC.out w ((HB.out.fr.trans (Fr.refl NoT w2).drew).trans hI.fr)).mono ?_
    rintro _ w5 ⟨v0,rfl,hf5,hv5⟩
    try dsimp only
    refine hK _ _ ?_
    exact⟨v0,by kernel_rfl,hI.put (p:=0) HT2.out hf5 (PpE.on _ _ _) (by unfold PpE;rw[if_pos rfl];exact⟨hv5,lrq _,leq9 HT2.out (leq9 hI.fr.size hf5.size)⟩)⟩
  ·simp at hip hop
   subst hip hop
   cases u
   all_goals
    simp only[putM,Act.put,List.setIfInBounds_toArray,List.set_cons_zero,List.set_cons_succ]
    refine wpOp_step (at_dropE rfl) (fun KK hK=>?_)
    go_simp
    refine hK _ _ ?_
    exact⟨_,by kernel_rfl,hI.lay (p:=1) HT2.out (PpE.on _ _ _) (fun v lo hi w h=>by unfold PpE;rw[if_neg (by decide)];exact h)⟩
  ·simp at hip
 ·obtain⟨u,v,rfl⟩:=all_two hol hall
  obtain⟨gg,cps,rfl⟩:∃gg cps,u= .func (.func gg) #[] cps:=by
   obtain⟨_,_,h9,_⟩:=hI.at_ (p:=0) rfl
   unfold PpE at h9
   rw[if_pos rfl]at h9
   obtain⟨gg,cps,h9,_⟩:=h9.1
   exact⟨gg,cps,h9⟩
  obtain⟨u,hu⟩:=nmq (Value.func (.func gg) #[] cps)
  rw[←hu]at hI
  have hnb:∀v lo hi w,PpE C ps (valH C.n ps k0 n0 m0 t0 a0) 1 v lo hi w→NewB 278 .nilFunc v lo hi w:=fun v lo hi w h=>by unfold PpE at h;rwa [if_neg (by decide)]at h
  obtain⟨g,rfl,hg,hgk⟩:=hI.place (p:=1) rfl hnb
  have h7:=hI.set (p:=1) HT2.out (PpE.on _ _ _) rfl hnb u
  obtain⟨lo1,hi1,hp7,hlo7,hhi7⟩:=h7.at_ (p:=0) rfl
  unfold upP at hp7
  rw[if_neg (by decide)]at hp7
  unfold PpE at hp7
  rw[if_pos rfl]at hp7
  obtain⟨g7,e7,hg7,_⟩:=h7.place (p:=1) (ty:=278) (z:=u) rfl (fun v lo hi w h=>by unfold upP at h;rwa [if_pos rfl]at h)
  obtain rfl:g=g7:=by simpa using e7
  have hgk7:Bk (w.setCell ⟨g,0,none⟩ u) g 278 #[u]:=by simpa using hgk.set_ 0 u
  have hlo:W.heap.size≤w2.drew.heap.size:=HB.out.fr.size
  have hf7:=(HB.out.fr.trans (Fr.refl NoT w2).drew).trans h7.fr
  have hAll:=HALL.out _ g u lo1 hi1 hf7 (HB.out.next ((Fr.refl NoT w2).drew.trans h7.fr)) ⟨hgk7,leq9 hlo hg,hgk7.lt⟩ hp7.1 (leq9 hlo hlo7) hhi7
  have hq7:=(HB.out.next ((Fr.refl NoT w2).drew.trans h7.fr)).q.cell 0
  have hgc:=hgk.cell 0
  have hgf:=hgk.frozen 0
  have hgl:=hgk.lt
  have HS7:=hdq (HS2.out _ ((Fr.refl NoT w2).drew.trans h7.fr))
  have HF7:=hdq hf7
  have H7:=hdq hAll
  have HBQ:=hdq (HB.out.next ((Fr.refl NoT w2).drew.trans h7.fr))
  simp only[List.getElem?_toArray,List.getElem?_cons_succ,List.getElem?_cons_zero]at hgc hq7
  simp only[putM,Act.put,List.setIfInBounds_toArray,List.set_cons_zero,List.set_cons_succ]
  subst hu
  clear hI h7 hp7 hlo7 hhi7 e7 hg7 hgk hgk7 hAll hf7 hHeld hg hlo hall hol
  refine wpE_next 7 rfl (by kernel_rfl) (fun KK hK=>?_)
  go_simp
  refine hK _ _ (fun h=>absurd h (by decide)) ?_
  clear hK KK
  try simp only[Act.put,List.setIfInBounds_toArray,List.set_cons_zero,List.set_cons_succ]
  refine wpE_done (by kernel_rfl) ?_
  have hlq:=HBQ.out.q.lt
  clear hgc hgf hgl
  obtain⟨w7,hw7⟩:=nmq (w.setCell ⟨g,0,none⟩ (.func (.func gg) #[] cps))
  rw[←hw7]at hq7 HS7 HF7 H7 HBQ hlq ⊢
  clear hw7
  by_cases k3:k=3
  ·have q3:(k==3)=true:=by simpa using k3
   have HE:=hdq (H7.out.1 k3)
   clear H7 k3
   go_wp2_with fail
   go_ret
   exact HE.out
  ·have q3:(k==3)=false:=by simpa using k3
   have HE:=hdq (H7.out.2 k3)
   by_cases k4:k=4
   ·have q4:(k != 4)=false:=by simpa using k4
    have hx2:=Bk.new w7 277 #[.func (.func 230) #[] #[]]
    have hf9:Fr NoT w7 (w7.alloc (.cells #[.func (.func 230) #[] #[]] 277)):=(Fr.refl _ _).alloc _
    have HR:=hdq (HE.out _ _ _ (fun _=> .inr 0) hf9 ⟨hx2,HF7.out.size,by simp⟩ val_4 (by
     obtain⟨_,_,_,_,_,e,_,_,ha1,_⟩:=HX.out
     have hr:=one_alone e (ha1 (.inr k4))
     rw[hr]at e
     rw[k4,e]
     exact valH_4 ..))
    clear hx2 hf9 k4
    go_wp2_with fail
    go_ret
    exact HR.out
   ·have q4:(k != 4)=true:=by simpa using k4
    obtain⟨hat2,hS,hbS,hBW,hT,e,hl,hk,ha1,ha2,h1,hpl,hsm⟩:=HX.out
    have hbW:b0 < W.heap.size:=ltq (hS _ hbS) hBW
    have hl2:args.len=2:=ha2 (by omega)
    obtain⟨k1,n1,m1,a1,t1,r1,rfl⟩:∃k1 n1 m1 a1 t1 r1,r0= .cons k1 n1 m1 a1 t1 r1:=by
     cases r0 with
     |nil=>rw[e]at hl2;simp[Exs.len]at hl2
     |cons a b c d f g=>exact⟨_,_,_,_,_,_,rfl⟩
    obtain rfl:r1= .nil :=Exs.len0 (by rw[e]at hl2;simp[Exs.len]at hl2;exact hl2)
    obtain⟨⟨_,_,_,hm1,_,f0,f1,f2,f4⟩,⟨A2,c2,f3,s2⟩,_⟩:=hat2
    have hc1:=h1 _ _ _ _ _ _ rfl
    obtain⟨l2,hl2'⟩:=nmq a1.len
    obtain⟨w8,hw8⟩:=nmq (w7.alloc (.cells #[.func (.func 230) #[] #[]] 277))
    have hf8:Fr NoT w7 w8:=by rw[hw8];exact(Fr.refl _ _).alloc _
    have hk8:Bk w8 w7.heap.size 277 #[.func (.func 230) #[] #[]]:=by rw[hw8];exact Bk.new _ _ _
    have h78:w7.heap.size < w8.heap.size:=hk8.lt
    have hfW8:=HF7.out.trans hf8
    have HS8:=hdq (show ∀w',Fr NoT w8 w'→ExS W.heap.size (W.heap.size+1) b0 (o0+5) (some ⟨C.P,0,none⟩) (some ⟨b0,o0,none⟩) l c (.int .u8 k1) (.string n1) (.int .i64 m1) (.slice A2 l2 c2) (.int .i64 t1) w' from fun w' hf=>
     have hf2:=hfW8.trans hf
     ⟨(HBQ.out.next (hf8.trans hf)).p.cell 0,(HBQ.out.next (hf8.trans hf)).q.cell 3,(hf2.cell hbW id).trans f0,(hf2.cell hbW id).trans f1,(hf2.cell hbW id).trans f2,(hf2.cell hbW id).trans (by rw[hl2'];exact f3),(hf2.cell hbW id).trans f4⟩)
    have HC8:=hdq (show ∀w',Fr NoT w8 w'→_ from fun w' hf=>hc1 w' S Z A2 c2 (leq9 hT (hfW8.trans hf).size) (hpl w' (hfW8.trans hf)) hS hm1 (s2.imp fun _ _ hx=>ExR.keep (hsm w' (hfW8.trans hf)) hx))
    rw[←hl2']at HC8
    have hl21:(1:Int) < (l:Int):=by rw[hl];omega
    have HE8:=hdq (show ∀w9 v2,Fr NoT w8 w9→ValP C ps v2 (valH C.n ps k1 n1 m1 t1 a1) w8.heap.size w9.heap.size w9→MkV C ps (valH C.n ps k nm m at_ args) W (.returned (.func (.func 231) #[] #[.pointer (some ⟨g,0,none⟩),.pointer (some ⟨W.heap.size+1,0,none⟩),.pointer (some ⟨w7.heap.size,0,none⟩)])) (w9.setCell ⟨w7.heap.size,0,none⟩ v2)from fun w9 v2 hf hv=>by
     have h9:=HF7.out.size
     have h8:=hf8.size
     have h10:=hf.size
     refine HE.out _ w7.heap.size v2 _ ((hf8.trans hf).high (lrq _) 0 _) ⟨by simpa using (hk8.fr0 hf).set_ 0 v2,h9,by simp;omega⟩ ((hv.later (Later.far (lrq _) (by omega) ⟨by omega,.inl h78⟩ 0 v2)).wide (by omega) (by simp)) ?_
     rw[e]
     exact valH_5 _ _ _ (by omega) _ _ _ _ _ _ _ _ _ _ _ _ _)
    have HK8:=hdq (fun w9 (hf:Fr NoT w8 w9)=>hk8.fr0 hf)
    clear hS hbS hBW hT e hl hk ha1 ha2 h1 hpl hsm hbW hl2 hc1 hl2' hf8 hk8 h78 hfW8 f0 f1 f2 f3 f4 s2 hm1 HX HE k4 k3
    have HW8:=hdq hw8
    clear hw8
    go_wp2_with fail
    rw[←HW8.out]
    refine wp_region_E (ExS W.heap.size (W.heap.size+1) b0 (o0+5) (some ⟨C.P,0,none⟩) (some ⟨b0,o0,none⟩) l c (.int .u8 k1) (.string n1) (.int .i64 m1) (.slice A2 l2 c2) (.int .i64 t1)) (fun i=>decide (i < 6)) (by kernel_rfl) (HS8.out _ (Fr.refl _ _).drew) (fun hHeld=>?_)
    refine wpE_pu 1 ?_
    try simp only[Act.put,List.setIfInBounds_toArray,List.set_cons_zero,List.set_cons_succ]
    refine wpE_tv 0 hHeld ?_
    try simp only[Act.put,List.setIfInBounds_toArray,List.set_cons_zero,List.set_cons_succ]
    refine wpE_tv 2 hHeld ?_
    try simp only[Act.put,List.setIfInBounds_toArray,List.set_cons_zero,List.set_cons_succ]
    refine wpE_pu 3 ?_
    try simp only[Act.put,List.setIfInBounds_toArray,List.set_cons_zero,List.set_cons_succ]
    refine wpE_tv 4 hHeld ?_
    try simp only[Act.put,List.setIfInBounds_toArray,List.set_cons_zero,List.set_cons_succ]
    refine wpE_next 5 rfl (by kernel_rfl) (fun KK hK=>?_)
    go_simp
    go_at_call 175
    refine(HC8.out _ (Fr.refl NoT w8).drew).mono ?_
    rintro _ w9 ⟨v2,rfl,hf9,hv9⟩
    have hf9':=(Fr.refl NoT w8).drew.trans hf9
    have hr9:=HE8.out w9 v2 hf9' hv9
    obtain⟨gg2,cps2,rfl,_⟩:=hv9
    have hk9:=HK8.out _ hf9'
    have z0:=hk9.cell 0
    have z1:=hk9.frozen 0
    have z2:=hk9.lt
    have HR:=hdq hr9
    have HF9:=hdq hf9'
    simp only[List.getElem?_toArray,List.getElem?_cons_succ,List.getElem?_cons_zero]at z0
    clear hf9 hf9' hr9 hk9
    try dsimp only
    refine hK _ _ (fun _ _=>HS8.out _ HF9.out) ?_
    clear hK KK
    try simp only[Act.put,List.setIfInBounds_toArray,List.set_cons_zero,List.set_cons_succ]
    refine wpE_next 6 rfl (by kernel_rfl) (fun KK hK=>?_)
    go_simp
    refine hK _ _ (fun h=>absurd h (by decide)) ?_
    clear hK KK
    try simp only[Act.put,List.setIfInBounds_toArray,List.set_cons_zero,List.set_cons_succ]
    refine wpE_done (by kernel_rfl) ?_
    go_wp2_with fail
    go_ret
    exact HR.out
theorem exp_one (C:BgC) (ps:List (List UInt8)) (ho:C.Ok) (k:Int) (nm:ByteArray) (m:Int) (args:Exs) (at_:Int) (hd:hdX C.n ps k nm args) (h:∀i k0 n0 m0 a0 t0 r0,Exs.drop i args= .cons k0 n0 m0 a0 t0 r0→ExpC C ps k0 n0 m0 a0 t0):ExpC C ps k nm m args at_:=by
 by_cases hk:k≤2
 ·exact exp_leaf ho args hd hk
 ·obtain⟨k0,n0,m0,a0,t0,r0,e⟩:∃k0 n0 m0 a0 t0 r0,args= .cons k0 n0 m0 a0 t0 r0:=by
   obtain⟨_,_,_,_,_,h1,h2⟩:=hd
   cases args with
   |nil=>
    exfalso
    by_cases h4:k=3∨k=4
    ·have:=h1 h4;simp[Exs.len]at this
    ·have:=h2 (by omega);simp[Exs.len]at this
   |cons a b c d f g=>exact⟨_,_,_,_,_,_,rfl⟩
  exact exp_more C ps ho k nm m args at_ hd (by omega) k0 n0 m0 a0 t0 r0 e (h 0 _ _ _ _ _ _ (by rw[e];rfl)) fun k1 n1 m1 a1 t1 r1 e1=>h 1 _ _ _ _ _ _ (by rw[e,e1];rfl)
theorem exps_all (C:BgC) (ps:List (List UInt8)) (ho:C.Ok):∀xs:Exs,wfX C.n ps xs→∀i k nm m a t r,Exs.drop i xs= .cons k nm m a t r→ExpC C ps k nm m a t
 | .nil,_,i,_,_,_,_,_,_,h=>by cases i<;>simp[Exs.drop]at h
 | .cons k nm m args at_ r,hw,0,k0,n0,m0,a0,t0,r0,h=>by
  simp only[Exs.drop,Exs.cons.injEq]at h
  obtain⟨rfl,rfl,rfl,rfl,rfl,_⟩:=h
  exact exp_one C ps ho _ _ _ _ _ hw.1 (exps_all C ps ho _ hw.2.1)
 | .cons k nm m args at_ r,hw,i+1,k0,n0,m0,a0,t0,r0,h=>by
  simp only[Exs.drop]at h
  exact exps_all C ps ho r hw.2.2 i _ _ _ _ _ _ h
end Go.Proofs.YtfomomaomggpbaaGreatDoor
