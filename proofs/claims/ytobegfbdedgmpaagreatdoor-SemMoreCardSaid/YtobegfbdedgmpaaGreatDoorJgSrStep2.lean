/-
  ref14's values: what the arguments of an edge's deed have.
-/
import Derived.Test.YtobegfbdedgmpaaGreatDoorJgSrRun
import Derived.Deep.RegionHeld2
import Derived.Test.YtobegfbdedgmpaaGreatDoorJgSrB
import Derived.Test.YtobegfbdedgmpaaGreatDoorJnData
import Derived.Test.YtobegfbdedgmpaaGreatDoorJgRA
set_option linter.unusedVariables false
set_option linter.unusedSimpArgs false
namespace Go.Proofs.YtobegfbdedgmpaaGreatDoor
open Go.RowKit Go.Shelf

theorem ed_at {w:World} {B:Nat} {l:List Ed} {A:Option Addr} {c:Nat} (h:EdSl w B l A c) {i:Nat} {e:Ed} (he:l[i]?=some e):∃b o,A=some ⟨b,o,none⟩∧EdAt w B l b o:=h.2.2 (by have:=(List.getElem?_eq_some_iff.1 he).1;omega)

def doE (s:Rs) (e:Ed) (i:Int):Rs ⊕ En:=
 if e.kind=7 then .inr (s.stop 5 1 e.at_ i)
 else if e.kind=8 then .inr (s.stop 4 0 e.at_ i)
 else if e.kind=5 then
  match s.script with
  | []=> .inr (s.stop 3 0 e.at_ i)
  |n::q=> .inl {s with vs:=s.vs.set e.n.toNat n,script:=q}
 else
  let f:=fltX s.vs s.ls e.args
  if f.1≠0 then .inr (s.stop 5 f.1 f.2 i)
  else
   let l:=valsX s.vs s.ls e.args
   if e.kind=3 then .inl {s with vs:=s.vs.set e.n.toNat (l.getD 0 0)}
   else if e.kind=4 then
    if 0≤l.getD 0 0∧l.getD 0 0 < (s.ls.getD e.n.toNat []).length then
     .inl {s with ls:=s.ls.set e.n.toNat ((s.ls.getD e.n.toNat []).set (l.getD 0 0).toNat (l.getD 1 0))}
    else .inr (s.stop 5 5 e.at_ i)
   else .inl s
structure MayE (g:Gr) (e:Ed):Prop where
 k:1≤e.kind∧e.kind≤8
 n:0≤e.n∧(e.kind=3→e.n < g.vars)∧(e.kind=5→e.n < g.vars)∧(e.kind=4→e.n < g.arrays.length)
 l:e.args.len≤2
 x:mayX g.vars g.arrays.length e.args=true
 c:e.kind=6→3≤e.cmp∧e.cmp≤8
theorem may_e {g:Gr} (h:mayG g=true) {e:Ed} (he:e∈g.edges):MayE g e:=by
 have h1:=may_bad h he
 have h2:=guard_cmp h1
 simp only[edBad,mayD,headD,Bool.or_eq_false_iff,Bool.not_eq_false',Bool.and_eq_true,decide_eq_true_eq,beq_iff_eq]at h1
 obtain⟨_,⟨⟨⟨⟨k1,k8⟩,n0,nm⟩,hl⟩,_⟩,hx⟩:=h1
 refine⟨⟨k1,k8⟩,⟨n0,fun h=>by simpa[mostD,h]using nm,fun h=>by simpa[mostD,h]using nm,fun h=>by simpa[mostD,h]using nm⟩,?_,hx,h2⟩
 unfold argsD at hl
 repeat(split at hl)
 all_goals omega
theorem Fr.low {T:Nat→Prop} {w w':World} (h:Fr T w w') {b:Nat} (hb:b < w.heap.size):b < w'.heap.size:=Nat.lt_of_lt_of_le hb h.size
theorem isSl_tail {w:World} {B:Nat} {x:Int} {l:List Int} {b o c:Nat} (h:IsSl w B (x::l) (some ⟨b,o,none⟩) c) {A:Option Addr} (hA:A=some ⟨b,o+1,none⟩∨l= []):IsSl w B l A (c - 1):=by
 have h1:=h.1
 simp only[List.length_cons]at h1
 refine⟨by omega,by have:=h.2.1;omega,fun hp=>?_⟩
 obtain⟨b',o',e,hh⟩:=h.2.2 (by simp)
 simp only[Option.some.injEq,Addr.mk.injEq]at e
 obtain⟨rfl,rfl,_⟩:=e
 rcases hA with hA|hA
 ·refine⟨b,o+1,hA,hh.1,fun i n hi=>?_⟩
  have:=hh.2 (i+1) n (by simpa using hi)
  rw[show o+1+i=o+(i+1)from by omega]
  exact this
 ·rw[hA]at hp;simp at hp

theorem in_is64 {n:Int} (h:in64 n):is64 n:=by unfold in64 at h;unfold is64;omega

def Rs.pay (s:Rs) (e:Ed):Rs:={s with left:=if costs e.kind then s.left - 1 else s.left}
def leadsTo (g:Gr) (s:Rs) (e:Ed) (r:List Nat):Int:=
 if e.kind=6 then
  if cmpB e.cmp ((valsX s.vs s.ls e.args).getD 0 0) ((valsX s.vs s.ls e.args).getD 1 0)then e.to_
  else match r with
   | []=>e.to_
   |j::_=>match g.edges[j]? with
    |some y=>y.to_
    |none=>e.to_
 else e.to_
theorem step_none {g:Gr} {s:Rs} (hi:idxE g.edges s.node g.edges.length= []):stepG g s= .inr (s.stop 4 0 0 0):=by
 unfold stepG;rw[hi]
theorem step_left {g:Gr} {s:Rs} {i:Nat} {r:List Nat} {e:Ed} (hi:idxE g.edges s.node g.edges.length=i::r) (he:g.edges[i]?=some e) (hc:costs e.kind=true) (h0:s.left=0):stepG g s= .inr (s.stop 2 0 e.at_ i):=by
 unfold stepG;rw[hi];simp only[he];rw[if_pos ⟨hc,h0⟩]
theorem step_do {g:Gr} {s:Rs} {i:Nat} {r:List Nat} {e:Ed} (hi:idxE g.edges s.node g.edges.length=i::r) (he:g.edges[i]?=some e) (hc:¬(costs e.kind=true∧s.left=0)):
  stepG g s=match doE (s.pay e) e i with
   | .inr z=> .inr z
   | .inl t=> .inl {t with node:=leadsTo g s e r}:=by
 unfold stepG;rw[hi];simp only[he];rw[if_neg hc]
 have ev:(s.pay e).vs =s.vs:=rfl
 have el:(s.pay e).ls =s.ls:=rfl
 have es:(s.pay e).script =s.script:=rfl
 unfold doE
 by_cases h7:e.kind=7
 ·rw[if_pos h7,if_pos h7];rfl
 rw[if_neg h7,if_neg h7]
 by_cases h8:e.kind=8
 ·rw[if_pos h8,if_pos h8];rfl
 rw[if_neg h8,if_neg h8]
 by_cases h5:e.kind=5
 ·rw[if_pos h5,if_pos h5,es]
  have h6:¬e.kind=6:=by omega
  cases s.script with
  |nil=>rfl
  |cons n q=>simp only[leadsTo,if_neg h6];rfl
 rw[if_neg h5,if_neg h5,ev,el]
 simp only
 by_cases hf:(fltX s.vs s.ls e.args).1 ≠0
 ·rw[if_pos hf,if_pos hf];rfl
 rw[if_neg hf,if_neg hf]
 by_cases h3:e.kind=3
 ·have h6:¬e.kind=6:=by omega
  rw[if_pos h3,if_pos h3];simp only[leadsTo,if_neg h6];rfl
 rw[if_neg h3,if_neg h3]
 by_cases h4:e.kind=4
 ·have h6:¬e.kind=6:=by omega
  rw[if_pos h4,if_pos h4]
  split
  ·simp only[leadsTo,if_neg h6];rfl
  ·rfl
 rw[if_neg h4,if_neg h4]
 by_cases h6:e.kind=6
 ·simp only[leadsTo,if_pos h6]
  by_cases hb:cmpB e.cmp ((valsX s.vs s.ls e.args).getD 0 0) ((valsX s.vs s.ls e.args).getD 1 0)=true
  ·rw[if_pos hb,if_pos hb];rfl
  ·rw[if_neg hb,if_neg hb]
   cases r with
   |nil=>rfl
   |cons j r=>
    cases hj:g.edges[j]? with
    |none=>simp only[hj];rfl
    |some y=>simp only[hj];rfl
 ·rw[if_neg h6];simp only[leadsTo,if_neg h6];rfl

theorem may_len {g:Gr} (h:mayG g=true):g.edges.length≤2048∧g.arrays.length≤4∧0≤g.vars∧g.vars≤32:=by
 simp only[mayG,Bool.and_eq_true,Bool.not_eq_true',Bool.or_eq_false_iff,odd1,decide_eq_false_iff_not]at h
 omega
theorem idx_at {w:World} {B:Nat} {is:List Nat} {A:Option Addr} {c:Nat} (h:IsSl w B (is.map fun(i:Nat)=>(i:Int)) A c) {j i:Nat} (hj:is[j]?=some i):∃b o,A=some ⟨b,o,none⟩∧b < B∧w.cell? ⟨b,o+j,none⟩=some (.int .i64 i):=by
 obtain⟨b,o,e,hb,hh⟩:=h.2.2 (by rw[List.length_map];have:=(List.getElem?_eq_some_iff.1 hj).1;omega)
 exact⟨b,o,e,hb,(hh j i (by rw[List.getElem?_map,hj];rfl)).1⟩

theorem pay_free {s:Rs} {e:Ed} (h:costs e.kind=false):s.pay e=s:=by unfold Rs.pay;rw[h];rfl
theorem pay_less {s:Rs} {e:Ed} (h:costs e.kind=true):s.pay e={s with left:=s.left - 1}:=by unfold Rs.pay;rw[h];rfl

def eq6 (a0 b0 a1 b1 a2 b2 a3 b3 a4 b4 a5 b5:Int) (q q':Bool):Bool:=a0==b0&&(a1==b1&&(a2==b2&&(a3==b3&&(a4==b4&&(a5==b5&&(q&&q'))))))
set_option maxRecDepth 100000 in
set_option maxHeartbeats 3200000 in
theorem same_any (a0 b0 a1 b1 a2 b2 a3 b3 a4 b4 a5 b5:Int) (vs vs':List Int) (ls ls':List (List Int)) (Av Av' Aa Aa':Option Addr) (cv cv' ca ca' B:Nat) (w:World) (hB:B≤w.heap.size) (hx:StSl w B vs ls Av cv Aa ca) (hy:StSl w B vs' ls' Av' cv' Aa' ca'):
  Calls Tryz.prog 32 #[.agg #[.int .u8 a0,.int .u8 a1,.int .i64 a2,.int .i64 a3,.int .i64 a4,.int .i64 a5,.slice Av vs.length cv,.slice Aa ls.length ca],.agg #[.int .u8 b0,.int .u8 b1,.int .i64 b2,.int .i64 b3,.int .i64 b4,.int .i64 b5,.slice Av' vs'.length cv',.slice Aa' ls'.length ca']] w (BoolPost (eq6 a0 b0 a1 b1 a2 b2 a3 b3 a4 b4 a5 b5 (vs==vs') (ls==ls')) w):=by
 obtain⟨n1,hn1⟩:=nmq ls.length
 obtain⟨n2,hn2⟩:=nmq ls'.length
 obtain⟨v1,hv1⟩:=nmq vs.length
 obtain⟨v2,hv2⟩:=nmq vs'.length
 obtain⟨q,hq⟩:=nmq ((vs==vs'))
 obtain⟨q',hq'⟩:=nmq ((ls==ls'))
 have hc:=fun(W:World) (hf:Fr NoT w W)=>ints_eq vs vs' Av Av' cv cv' W B (hx.vars.keep (Same.of_fr hf hB fun _ h=>h.elim)) (hy.vars.keep (Same.of_fr hf hB fun _ h=>h.elim))
 have hd:=fun(W:World) (hf:Fr NoT w W)=>rows_eq ls ls' Aa Aa' ca ca' W B (Nat.le_trans hB hf.size) (hx.arrs.keep (Same.of_fr hf hB fun _ h=>h.elim)) (hy.arrs.keep (Same.of_fr hf hB fun _ h=>h.elim))
 have kk:=bk_alloc2 w #[.int .u8 a0,.int .u8 a1,.int .i64 a2,.int .i64 a3,.int .i64 a4,.int .i64 a5,.slice Av vs.length cv,.slice Aa ls.length ca] #[.int .u8 b0,.int .u8 b1,.int .i64 b2,.int .i64 b3,.int .i64 b4,.int .i64 b5,.slice Av' vs'.length cv',.slice Aa' ls'.length ca'] 59 59
 rw[←hv1,←hv2,←hq]at hc
 rw[←hn1,←hn2,←hq']at hd
 rw[←hn1,←hn2,←hv1,←hv2]at kk
 rw[←hn1,←hn2,←hv1,←hv2,←hq,←hq']
 have HC:=hdq hc
 have HD:=hdq hd
 have HKK:=hdq kk
 obtain⟨w1,hw1⟩:=nmq ((w.alloc (.cells #[.int .u8 a0,.int .u8 a1,.int .i64 a2,.int .i64 a3,.int .i64 a4,.int .i64 a5,.slice Av v1 cv,.slice Aa n1 ca] 59)).alloc (.cells #[.int .u8 b0,.int .u8 b1,.int .i64 b2,.int .i64 b3,.int .i64 b4,.int .i64 b5,.slice Av' v2 cv',.slice Aa' n2 ca'] 59))
 have hf1:Fr NoT w w1:=by rw[hw1];exact((Fr.refl _ _).alloc _).alloc _
 have HW1:=hdq hw1
 have HF1:=hdq hf1
 clear hx hy hn1 hn2 hv1 hv2 hq hq' hw1 hf1 hc hd kk
 by_cases h0:a0=b0
 case neg=>
  have g0:(a0==b0)=false:=by simpa using h0
  have HE:=hdq (show eq6 a0 b0 a1 b1 a2 b2 a3 b3 a4 b4 a5 b5 q q'=false from by simp[eq6,g0])
  go_enter Tryz.func32,Tryz.ntmps32
  go_wp2_with fail
  rw[←HW1.out]
  go_ret
  exact⟨by rw[HE.out];rfl,HF1.out.plain⟩
 subst h0
 by_cases h1:a1=b1
 case neg=>
  have g1:(a1==b1)=false:=by simpa using h1
  have HE:=hdq (show eq6 a0 a0 a1 b1 a2 b2 a3 b3 a4 b4 a5 b5 q q'=false from by simp[eq6,g1])
  go_enter Tryz.func32,Tryz.ntmps32
  go_wp2_with fail
  rw[←HW1.out]
  go_ret
  exact⟨by rw[HE.out];rfl,HF1.out.plain⟩
 subst h1
 by_cases h2:a2=b2
 case neg=>
  have g2:(a2==b2)=false:=by simpa using h2
  have HE:=hdq (show eq6 a0 a0 a1 a1 a2 b2 a3 b3 a4 b4 a5 b5 q q'=false from by simp[eq6,g2])
  go_enter Tryz.func32,Tryz.ntmps32
  go_wp2_with fail
  rw[←HW1.out]
  go_ret
  exact⟨by rw[HE.out];rfl,HF1.out.plain⟩
 subst h2
 by_cases h3:a3=b3
 case neg=>
  have g3:(a3==b3)=false:=by simpa using h3
  have HE:=hdq (show eq6 a0 a0 a1 a1 a2 a2 a3 b3 a4 b4 a5 b5 q q'=false from by simp[eq6,g3])
  go_enter Tryz.func32,Tryz.ntmps32
  go_wp2_with fail
  rw[←HW1.out]
  go_ret
  exact⟨by rw[HE.out];rfl,HF1.out.plain⟩
 subst h3
 by_cases h4:a4=b4
 case neg=>
  have g4:(a4==b4)=false:=by simpa using h4
  have HE:=hdq (show eq6 a0 a0 a1 a1 a2 a2 a3 a3 a4 b4 a5 b5 q q'=false from by simp[eq6,g4])
  go_enter Tryz.func32,Tryz.ntmps32
  go_wp2_with fail
  rw[←HW1.out]
  go_ret
  exact⟨by rw[HE.out];rfl,HF1.out.plain⟩
 subst h4
 by_cases h5:a5=b5
 case neg=>
  have g5:(a5==b5)=false:=by simpa using h5
  have HE:=hdq (show eq6 a0 a0 a1 a1 a2 a2 a3 a3 a4 a4 a5 b5 q q'=false from by simp[eq6,g5])
  go_enter Tryz.func32,Tryz.ntmps32
  go_wp2_with fail
  rw[←HW1.out]
  go_ret
  exact⟨by rw[HE.out];rfl,HF1.out.plain⟩
 subst h5
 have HE:=hdq (show eq6 a0 a0 a1 a1 a2 a2 a3 a3 a4 a4 a5 a5 q q'=(q&&q')from by simp[eq6])
 go_enter Tryz.func32,Tryz.ntmps32
 go_wp2_with fail
 rw[←HW1.out]
 have a7:=HKK.out.1.cell 7
 have b7:=HKK.out.2.cell 7
 have al:=HKK.out.1.lt
 have bl:=HKK.out.2.lt
 rw[←HW1.out]at a7 b7 al bl
 simp only[List.getElem?_toArray,List.getElem?_cons_succ,List.getElem?_cons_zero]at a7 b7
 go_at_call 82
 refine(HC.out w1 HF1.out).mono ?_
 rintro e w2 ⟨rfl,hb2⟩
 have hf2:Fr NoT w1 w2:=Fr.below hb2
 have a7':=(hf2.cell (p:=⟨w.heap.size,7,none⟩) al id).trans a7
 have b7':=(hf2.cell (p:=⟨w.heap.size+1,7,none⟩) bl id).trans b7
 have al':=hf2.low al
 have bl':=hf2.low bl
 have HF2:=hdq (HF1.out.trans hf2)
 clear hb2 hf2
 cases q with
 |false=>
  go_wp2_with fail
  go_ret
  exact⟨by rw[HE.out];rfl,HF2.out.plain⟩
 |true=>
  go_wp2_with fail
  go_at_call 83
  refine(HD.out w2 HF2.out).mono ?_
  rintro e w3 ⟨rfl,hb3⟩
  go_wp2_with fail
  go_ret
  exact⟨by rw[HE.out];rfl,(HF2.out.trans (Fr.below hb3)).plain⟩
end Go.Proofs.YtobegfbdedgmpaaGreatDoor

