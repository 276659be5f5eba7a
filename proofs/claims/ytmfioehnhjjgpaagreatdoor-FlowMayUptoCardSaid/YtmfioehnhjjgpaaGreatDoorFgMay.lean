/-
  law13.FlowMay: a program's graph may be; places turn nothing but places.
-/
import Derived.Test.YtmfioehnhjjgpaaGreatDoorJgJgFgLw
import Derived.Test.YtmfioehnhjjgpaaGreatDoorJgFgMayN
import Derived.Test.YtmfioehnhjjgpaaGreatDoorFgMayB
import Derived.Test.YtmfioehnhjjgpaaGreatDoorRgGreat
import Derived.Test.YtmfioehnhjjgpaaGreatDoorPbTop
set_option linter.unusedVariables false
set_option linter.unusedSimpArgs false
namespace Go.Proofs.YtmfioehnhjjgpaaGreatDoor
open Go.RowKit Go.Shelf Go.Maps

theorem znP:∀ {xs:Exs},szX xs→szX xs.bare
 | .nil,_=>trivial
 | .cons _ _ _ args _ r,⟨h0,h1,h2⟩=>⟨h0,znP h1,znP h2⟩
theorem zpH:∀ {xs:Cds},szC xs→szC xs.bare
 | .nil,_=>trivial
 | .cons _ args of_ _ r,⟨h1,h2,h3⟩=>⟨znP h1,zpH h2,zpH h3⟩
theorem zmk:∀ {xs:Sts},szS xs→szS xs.bare
 | .nil,_=>trivial
 | .cons _ nm args cond body els _ r,⟨h0,h1,h2,h3,h4,h5⟩=>⟨h0,znP h1,zpH h2,zmk h3,zmk h4,zmk h5⟩
theorem szT_m {t:Tre} (h:SzT t):SzT t.bare:=by
 refine⟨fun v hv=>?_,fun v hv=>?_,fun v hv=>?_,zmk h.main⟩
 all_goals
  obtain⟨u,hu,rfl⟩:=List.mem_map.1 hv
 ·exact h.vars u hu
 ·exact h.arrays u hu
 ·refine⟨(h.procs u hu).1,fun v hv=>?_,zmk (h.procs u hu).2.2⟩
  obtain⟨x,hx,rfl⟩:=List.mem_map.1 hv
  exact(h.procs u hu).2.1 x hx
theorem zpI:∀xs:Cds,szN xs.bare=szN xs
 | .nil =>rfl
 | .cons k args of_ at_ r=>by simp only[Cds.bare,szN,zpI of_,zpI r]
theorem zml {M:Nat}:∀ {xs:Sts},cdM M xs→cdM M xs.bare
 | .nil,_=>trivial
 | .cons _ _ _ cond body els _ r,⟨h1,h2,h3,h4⟩=>⟨by rw[zpI];exact h1,zml h2,zml h3,zml h4⟩
theorem cdT_m {M:Nat} {t:Tre} (h:CdT M t):CdT M t.bare:=⟨zml h.main,fun x hx=>by
 obtain⟨u,hu,rfl⟩:=List.mem_map.1 hx
 exact zml (h.procs u hu)⟩
theorem znQ {t:Tre} (h:(graT t).2 ≠0):(graT t).1 =noGr:=by
 unfold graT at h ⊢
 split at h
 ·rename_i h0
  rw[if_pos h0]
  split at h
  ·rename_i h1
   rw[if_pos h1]
  ·exact absurd rfl h
 ·rename_i h0
  rw[if_neg h0]
theorem zmm {t:Tre} (h:(graT t).2 =0):(graT t).1.vars =((inlT t).1.vars.length :Int):=by
 unfold graT at h ⊢
 split at h
 ·rename_i h0
  rw[if_pos h0]
  split at h
  ·exact absurd h (by decide)
  ·rename_i h1
   rw[if_neg h1]
 ·rename_i h0
  exact absurd h h0
theorem zpJ {B:Nat} {w w':World} (hf:Fr NoT w w') (hB:B≤w.heap.size):Same B w w':=fun p hp=>hf.cell (ltq hp hB) id
theorem EgR.sb2 {w:World} {S:Nat→Prop}:∀ {l:List Ed} {b o i:Nat} {e:Ed},EgR w S l b o→l[i]?=some e→S b
 | [],_,_,_,_,_,h=>by simp at h
 |_::_,_,_,_,_,h,_=>h.1.1
set_option maxRecDepth 100000 in
set_option maxHeartbeats 12800000 in
theorem znR (t:Tre) (w:World) (S:Nat→Prop) (Z:Prop) (Av Aa Ap Am:Option Addr) (cv ca cp cm:Nat) (he:NameEnv w) (hS:∀b,S b→b < w.heap.size) (hsz:SzT t) (hm:CdT 1000000000 t) (hx:TrR w S Z t Av Aa Ap Am cv ca cp cm):
  Calls Tryz.prog 3 #[trV t Av Aa Ap Am cv ca cp cm] w (zf0 w):=by
 have hgr:=fun(W:World) (hf:Fr NoT w W)=>zjO t W S Z Av Aa Ap Am cv ca cp cm (fun b hb=>ltq (hS b hb) hf.size) (hx.keep (hf.same fun b hb=>⟨hS b hb,id⟩))
 have hga:=fun(W:World) (hf:Fr NoT w W)=>zg9 t W S Z Av Aa Ap Am cv ca cp cm (he.keep hf.plain).toSp (he.keep hf.plain).lex.tab (fun b hb=>ltq (hS b hb) hf.size) hsz hm (hx.keep (hf.same fun b hb=>⟨hS b hb,id⟩))
 have hin:=fun(W:World) (hf:Fr NoT w W)=>zlx t W S Z Av Aa Ap Am cv ca cp cm (he.keep hf.plain).toSp (he.keep hf.plain).lex.tab (fun b hb=>ltq (hS b hb) hf.size) hsz (hx.keep (hf.same fun b hb=>⟨hS b hb,id⟩))
 have hba:=fun(W:World) (hf:Fr NoT w W)=>zmj t W S Z Av Aa Ap Am cv ca cp cm (fun b hb=>ltq (hS b hb) hf.size) (hx.keep (hf.same fun b hb=>⟨hS b hb,id⟩))
 have hgb:=fun(W:World) (hf:Fr NoT w W) (L:Nat) (Bv Ba Bp Bm:Option Addr) (dv da dp dm:Nat) (hb:TrR W (New L W) False t.bare Bv Ba Bp Bm dv da dp dm)=>zg9 t.bare W (New L W) False Bv Ba Bp Bm dv da dp dm (he.keep hf.plain).toSp (he.keep hf.plain).lex.tab (fun b hb=>hb.2) (szT_m hsz) (cdT_m hm) hb
 obtain⟨b1,b2,b3,b4⟩:=zl0 t
 have hmay:=fun(h:(graT t).2 =0)=>znF h
 have herr:=fun(h:(graT t).2 ≠0)=>znQ h
 have hvar:=fun(h:(graT t).2 =0)=>zmm h
 obtain⟨G,hG⟩:=nmq ((graT t).1 )
 obtain⟨E1,hE1⟩:=nmq ((graT t).2 )
 obtain⟨G2,hG2⟩:=nmq ((graT t.bare).1 )
 obtain⟨T,hT⟩:=nmq ((inlT t).1 )
 obtain⟨E2,hE2⟩:=nmq ((inlT t).2 )
 obtain⟨U,hU⟩:=nmq t.bare
 unfold GraP grV at hga
 unfold GraP grV at hgb
 unfold InlP trV at hin
 unfold PbP trV at hba
 rw[←hG,←hE1]at hga hmay
 rw[←hG,←hE1]at herr hvar
 rw[←hT,←hE2]at hin
 rw[←hE2]at hmay
 rw[←hT]at hvar
 rw[←hE1]at b1
 rw[←hG2,←hG]at b2 b3 b4
 rw[b1,←hG2]at hgb
 rw[←hU]at hba
 rw[←hU]at hgb
 unfold trV at hgr hga hgb ⊢
 obtain⟨n1,hn1⟩:=nmq t.vars.length
 obtain⟨n2,hn2⟩:=nmq t.arrays.length
 obtain⟨n3,hn3⟩:=nmq t.procs.length
 obtain⟨n4,hn4⟩:=nmq t.main.len
 rw[←hn1,←hn2,←hn3,←hn4]at hgr hga hin hba ⊢
 obtain⟨w1,hw1⟩:=nmq (w.alloc (.cells #[.slice Av n1 cv,.slice Aa n2 ca,.slice Ap n3 cp,.slice Am n4 cm] 27))
 have hf1:Fr NoT w w1:=by rw[hw1];exact(Fr.refl _ _).alloc _
 have hk1:Bk w1 w.heap.size 27 #[.slice Av n1 cv,.slice Aa n2 ca,.slice Ap n3 cp,.slice Am n4 cm]:=by rw[hw1];exact Bk.new _ _ _
 have HAL:=hdq (zjM w1 (he.keep hf1.plain))
 have HGR:=hdq hgr
 have HGA:=hdq hga
 have HIN:=hdq hin
 have HBA:=hdq hba
 have HGB:=hdq hgb
 have HMY:=hdq hmay
 have HER:=hdq herr
 have HVR:=hdq hvar
 have HB2:=hdq b2
 have HB4:=hdq b4
 have HW1:=hdq hw1
 have HF1:=hdq hf1
 have HK1:=hdq hk1
 clear hgr hga hin hba hgb hmay herr hvar b1 b2 b3 b4 hG hE1 hG2 hT hE2 hU hn1 hn2 hn3 hn4 hw1 hf1 hk1 he hS hsz hm hx
 go_enter Tryz.func3,Tryz.ntmps3
 go_wp2_with fail
 rw[←HW1.out]
 refine HAL.out.mono ?_
 rintro _ w2 ⟨rfl,hb2⟩
 have HF2:=hdq (HF1.out.trans (Fr.below hb2:Fr NoT w1 w2))
 have HK2:=hdq (HK1.out.fr0 (Fr.below hb2:Fr NoT w1 w2))
 clear hb2
 have gc0:=HK2.out.cell 0
 have gc1:=HK2.out.cell 1
 have gc2:=HK2.out.cell 2
 have gc3:=HK2.out.cell 3
 have gl:=HK2.out.lt
 simp only[getsL]at gc0 gc1 gc2 gc3
 go_wp2_with fail
 try go_at_call 7
 refine(HGR.out w2 HF2.out).mono ?_
 rintro _ w3 ⟨b,rfl,hf23⟩
 have HF3:=hdq (HF2.out.trans hf23)
 have HK3:=hdq (HK2.out.fr0 hf23)
 clear hf23 gc0 gc1 gc2 gc3 gl
 have gc0:=HK3.out.cell 0
 have gc1:=HK3.out.cell 1
 have gc2:=HK3.out.cell 2
 have gc3:=HK3.out.cell 3
 have gl:=HK3.out.lt
 simp only[getsL]at gc0 gc1 gc2 gc3
 cases b
 rotate_left
 ·go_wp2_with fail
  go_ret
  exact⟨rfl,HF3.out.plain⟩
 go_wp2_with fail
 try go_at_call 8
 refine(HGA.out w3 HF3.out).mono ?_
 rintro _ w4 ⟨Ba,Be,da,de,rfl,hG4,hf34⟩
 have HF4:=hdq (HF3.out.trans hf34)
 have HK4:=hdq (HK3.out.fr0 hf34)
 clear hf34 gc0 gc1 gc2 gc3 gl
 by_cases hE:E1=0
 rotate_left
 ·have e9:(E1==0)=false:=by simpa using hE
  have e8:(E1 != 0)=true:=by simpa using hE
  have hG0:=HER.out hE
  subst hG0
  go_wp2_with fail
  go_ret
  refine⟨rfl,(HF4.out.trans ?_).plain⟩
  first
   |exact(Fr.refl _ _).alloc _
   |exact((Fr.refl _ _).alloc _).drewN _
 subst hE
 obtain⟨hmay,rfl⟩:=HMY.out rfl
 have hvar:=HVR.out rfl
 obtain⟨w5,hw5⟩:=nmq (w4.alloc (.cells #[.int .i64 G.vars,.slice Ba G.arrays.length da,.int .i64 G.nodes,.int .i64 G.start,.int .i64 G.last,.slice Be G.edges.length de] 33))
 have hf45:Fr NoT w4 w5:=by rw[hw5];exact(Fr.refl _ _).alloc _
 have HB5:=hdq (show Bk w5 w4.heap.size 33 #[.int .i64 G.vars,.slice Ba G.arrays.length da,.int .i64 G.nodes,.int .i64 G.start,.int .i64 G.last,.slice Be G.edges.length de]from by rw[hw5];exact Bk.new _ _ _)
 have HF5:=hdq (HF4.out.trans hf45)
 have HK5:=hdq (HK4.out.fr0 hf45)
 have HW5:=hdq hw5
 have HG4:=hdq hG4
 have HF45:=hdq hf45
 have HMAY:=hdq hmay
 have HVAR:=hdq hvar
 clear hf45 hw5 hG4 hmay hvar
 have gc0:=HK4.out.cell 0
 have gc1:=HK4.out.cell 1
 have gc2:=HK4.out.cell 2
 have gc3:=HK4.out.cell 3
 have gl:=HK4.out.lt
 simp only[getsL]at gc0 gc1 gc2 gc3
 go_wp2_with fail
 rw[←HW5.out]
 try go_at_call 9
 refine(HIN.out w5 HF5.out).mono ?_
 rintro _ w6 ⟨Dv,Da,Dp,Dm,ev,ea,ep,em,rfl,_,hf56⟩
 obtain⟨w7,hw7⟩:=nmq (w6.alloc (.cells #[.slice Dv T.vars.length ev,.slice Da T.arrays.length ea,.slice Dp T.procs.length ep,.slice Dm T.main.len em] 27))
 have hf67:Fr NoT w6 w7:=by rw[hw7];exact(Fr.refl _ _).alloc _
 have HB7:=hdq (show Bk w7 w6.heap.size 27 #[.slice Dv T.vars.length ev,.slice Da T.arrays.length ea,.slice Dp T.procs.length ep,.slice Dm T.main.len em]from by rw[hw7];exact Bk.new _ _ _)
 have HK6:=hdq (HK5.out.fr0 hf56)
 have HF7:=hdq (HF5.out.trans (hf56.trans hf67))
 have HG7:=hdq (HB5.out.fr0 (hf56.trans hf67))
 have HF47:=hdq (HF45.out.trans (hf56.trans hf67))
 have HW7:=hdq hw7
 clear hf56 hf67 hw7 gc0 gc1 gc2 gc3 gl
 have gc0:=HK6.out.cell 0
 have gc1:=HK6.out.cell 1
 have gc2:=HK6.out.cell 2
 have gc3:=HK6.out.cell 3
 have gl:=HK6.out.lt
 simp only[getsL]at gc0 gc1 gc2 gc3
 go_wp2_with fail
 rw[←HW7.out]
 try go_at_call 10
 refine(HBA.out w7 HF7.out).mono ?_
 rintro _ w8 ⟨Cv,Ca,Cp,Cm',fv,fa,fp,fm,rfl,hT8,hf78⟩
 clear gc0 gc1 gc2 gc3 gl
 go_wp2_with fail
 try go_at_call 8
 refine(HGB.out w8 (HF7.out.trans hf78) w7.heap.size Cv Ca Cp Cm' fv fa fp fm hT8).mono ?_
 rintro _ w9 ⟨Ha,He,ha,he,rfl,hG9,hf89⟩
 obtain⟨wA,hwA⟩:=nmq (w9.alloc (.cells #[.int .i64 G2.vars,.slice Ha G2.arrays.length ha,.int .i64 G2.nodes,.int .i64 G2.start,.int .i64 G2.last,.slice He G2.edges.length he] 33))
 have hf9A:Fr NoT w9 wA:=by rw[hwA];exact(Fr.refl _ _).alloc _
 have HBA2:=hdq (show Bk wA w9.heap.size 33 #[.int .i64 G2.vars,.slice Ha G2.arrays.length ha,.int .i64 G2.nodes,.int .i64 G2.start,.int .i64 G2.last,.slice He G2.edges.length he]from by rw[hwA];exact Bk.new _ _ _)
 have hf7A:Fr NoT w7 wA:=(hf78.trans hf89).trans hf9A
 have HFA:=hdq (HF7.out.trans hf7A)
 have HGA2:=hdq (HG7.out.fr0 hf7A)
 have HG9b:=hdq (HG7.out.fr0 (hf78.trans hf89))
 have HTA:=hdq (HB7.out.fr0 hf7A)
 have HF4A:=hdq (HF47.out.trans hf7A)
 have HF9A:=hdq hf9A
 have HWA:=hdq hwA
 have HG9:=hdq hG9
 have HCK:=hdq (zk9 G Ba Be da de w4.heap.size wA (HF4A.out.size) ((HG4.out.grSl (B:=w4.heap.size) (fun b hb=>hb.2)).keep (zpJ HF4A.out (lrq _))))
 clear hf78 hf89 hf9A hf7A hT8 hG9 hwA
 have gc0:=HG9b.out.cell 0
 have gc1:=HG9b.out.cell 1
 have gc2:=HG9b.out.cell 2
 have gc3:=HG9b.out.cell 3
 have gc4:=HG9b.out.cell 4
 have gc5:=HG9b.out.cell 5
 have gl:=HG9b.out.lt
 simp only[getsL]at gc0 gc1 gc2 gc3 gc4 gc5
 have hc:=HCK.out
 unfold grV zdp at hc
 rw[HMAY.out]at hc
 have HC:=hdq hc
 clear hc
 go_wp2_with fail
 rw[←HWA.out]
 try go_at_call 11
 refine HC.out.mono ?_
 rintro _ wB ⟨rfl,hbB⟩
 have hfAB:Fr NoT wA wB:=Fr.below hbB
 obtain⟨ne,hne⟩:=nmq G.edges.length
 have hne2:G2.edges.length=ne:=by rw[HB4.out,List.length_map,hne]
 have hlne:ne≤9223372036854775807:=by rw[hne];exact leq9 HG4.out.edges.1 HG4.out.edges.2.1.1
 have hnn:=HB2.out
 have hvv:=HVAR.out
 have HNE:=hdq hne
 have HNE2:=hdq hne2
 have HFB:=hdq (HFA.out.trans hfAB)
 have HGB2:=hdq (show Bk wB w4.heap.size 33 #[.int .i64 G.vars,.slice Ba G.arrays.length da,.int .i64 G.nodes,.int .i64 G.start,.int .i64 G.last,.slice Be ne de]from by rw[hne];exact HGA2.out.fr0 hfAB)
 have HHB:=hdq (show Bk wB w9.heap.size 33 #[.int .i64 G2.vars,.slice Ha G2.arrays.length ha,.int .i64 G2.nodes,.int .i64 G2.start,.int .i64 G2.last,.slice He ne he]from by rw[←hne2];exact HBA2.out.fr0 hfAB)
 have HTB:=hdq (HTA.out.fr0 hfAB)
 have HF4B:=hdq (HF4A.out.trans hfAB)
 have HF9B:=hdq (HF9A.out.trans hfAB)
 clear hbB hfAB gc0 gc1 gc2 gc3 gc4 gc5 gl
 have t0:=HTB.out.cell 0
 have tl:=HTB.out.lt
 have gc0:=HGB2.out.cell 0
 have gc2:=HGB2.out.cell 2
 have gc5:=HGB2.out.cell 5
 have gl:=HGB2.out.lt
 have hc2:=HHB.out.cell 2
 have hc5:=HHB.out.cell 5
 have hl9:=HHB.out.lt
 simp only[getsL]at t0 gc0 gc2 gc5 hc2 hc5
 rw[hnn]at hc2
 rw[hvv]at gc0
 clear hnn hvv hne hne2
 go_wp2_with fail
 clear t0 tl gc0 gc2 gc5 gl hc2 hc5 hl9
 go_loopw [10] (fun i wr=>∃k:Nat,k≤ne∧i= .int .i64 k∧Hid (Fr NoT wB wr)) (fun i _=>ne - (intOf i).toNat)
 case atStart=>exact⟨0,Nat.zero_le _,rfl,hdq (Fr.refl _ _)⟩
 case round=>
  obtain⟨k,hk,rfl,hr⟩:=hrel
  have HR:=hdq hr.out
  have gc5:=(HGB2.out.fr0 hr.out).cell 5
  have gl:=(HGB2.out.fr0 hr.out).lt
  have hc5:=(HHB.out.fr0 hr.out).cell 5
  have hl9:=(HHB.out.fr0 hr.out).lt
  simp only[getsL]at gc5 hc5
  clear hr
  by_cases hlt:k < ne
  ·obtain⟨e,he⟩:∃x,G.edges[k]?=some x:=⟨_,List.getElem?_eq_getElem (by rw[←HNE.out];exact hlt)⟩
   have he2:G2.edges[k]?=some e.bz:=by rw[HB4.out,List.getElem?_map,he];rfl
   obtain⟨b,o,rfl,hA⟩:=HG4.out.edges.2.2 (by rw[←HNE.out];omega)
   obtain⟨b2,o2,rfl,hB⟩:=HG9.out.edges.2.2 (by rw[HNE2.out];omega)
   have hbl:b < w4.heap.size:=(hA.sb2 he).2
   have hbl2:b2 < w9.heap.size:=(hB.sb2 he2).2
   obtain⟨a0,a1,a2,_,_,a6⟩:=hA.cells he
   obtain⟨c0,c1,c2,_,_,c6⟩:=hB.cells he2
   have hfa:=HF4B.out.trans HR.out
   have hfb:=HF9B.out.trans HR.out
   have d0:=(hfa.cell (p:=⟨b,o+k*7,none⟩) hbl id).trans a0
   have d1:=(hfa.cell (p:=⟨b,o+k*7+1,none⟩) hbl id).trans a1
   have d2:=(hfa.cell (p:=⟨b,o+k*7+2,none⟩) hbl id).trans a2
   have f0:=(hfb.cell (p:=⟨b2,o2+k*7,none⟩) hbl2 id).trans c0
   have f1:=(hfb.cell (p:=⟨b2,o2+k*7+1,none⟩) hbl2 id).trans c1
   have f2:=(hfb.cell (p:=⟨b2,o2+k*7+2,none⟩) hbl2 id).trans c2
   have f6:=(hfb.cell (p:=⟨b2,o2+k*7+6,none⟩) hbl2 id).trans c6
   have zl:=ltq hbl hfa.size
   have zl2:=ltq hbl2 hfb.size
   simp only[Ed.bz]at f0 f1 f2 f6
   obtain⟨x0,hx0⟩:=nmq e.from_
   obtain⟨x1,hx1⟩:=nmq e.to_
   obtain⟨x2,hx2⟩:=nmq e.kind
   rw[←hx0]at d0 f0
   rw[←hx1]at d1 f1
   rw[←hx2]at d2 f2
   have hlt':(k:Int) < (ne:Int):=by omega
   have hge:(0:Int)≤(k:Int):=by omega
   clear he he2 hA hB hbl hbl2 a0 a1 a2 a6 c0 c1 c2 c6 hfa hfb hx0 hx1 hx2
   go_wp2_with fail
   go_quiet (fail)
   go_wp2_with fail
   go_roundw
   case rel=>exact⟨k+1,by omega,by go_num,hdq (HR.out.drewN _)⟩
   case measure=>simp[intOf];omega
  ·have hlt':¬(k:Int) < (ne:Int):=by omega
   go_wp2_with fail
   go_ret
   exact⟨rfl,(HFB.out.trans HR.out).plain⟩
end Go.Proofs.YtmfioehnhjjgpaaGreatDoor
