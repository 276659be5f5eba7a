/-
  law10: PrintTrees.
-/
import Derived.Test.YtobegfbdedgmpaaGreatDoorJnPnR
import Derived.Test.YtobegfbdedgmpaaGreatDoorJnPb
import Derived.Test.YtobegfbdedgmpaaGreatDoorJnPnG
set_option linter.unusedVariables false
set_option linter.unusedSimpArgs false
namespace Go.Proofs.YtobegfbdedgmpaaGreatDoor
open Go.RowKit Go.Shelf

theorem wrtL_sum:∀(b:Bool) (ts:Tx),(wrtL b ts).length ≤sumT ts
 |_, []=>Nat.zero_le _
 |b,t::r=>by
  have i:=wrtL_sum (isWd (t.getLastD 0)) r
  show(_++wrtL _ r).length ≤t.length+1+sumT r
  rw[List.length_append]
  split
  ·simp only[List.length_cons];omega
  ·omega
theorem bareX_z:∀xs:Exs,xs.bare.bare=xs.bare
 | .nil =>rfl
 | .cons _ _ _ args _ r=>by simp only[Exs.bare,bareX_z args,bareX_z r]
theorem bareC_z:∀xs:Cds,xs.bare.bare=xs.bare
 | .nil =>rfl
 | .cons _ args of_ _ r=>by simp only[Cds.bare,bareX_z args,bareC_z of_,bareC_z r]
theorem bareS_z:∀xs:Sts,xs.bare.bare=xs.bare
 | .nil =>rfl
 | .cons _ _ args cond body els _ r=>by simp only[Sts.bare,bareX_z args,bareC_z cond,bareS_z body,bareS_z els,bareS_z r]
theorem bareT_z (t:Tre):t.bare.bare=t.bare:=by
 simp only[Tre.bare,List.map_map,bareS_z]
 congr 1
 ·refine List.map_congr_left fun x _=>?_
  simp only[Function.comp,Prc.bare,List.map_map,bareS_z]
  congr 1
theorem okX_z:∀xs:Exs,okX xs.bare=okX xs
 | .nil =>rfl
 | .cons k nm m args a r=>by simp only[Exs.bare,okX,bareX_len,okX_z args,okX_z r]
theorem okC_z:∀xs:Cds,okC xs.bare=okC xs
 | .nil =>rfl
 | .cons k args of_ a r=>by simp only[Cds.bare,okC,bareX_len,bareC_len,okX_z args,okC_z of_,okC_z r]
theorem okS_z:∀xs:Sts,okS xs.bare=okS xs
 | .nil =>rfl
 | .cons k nm args cond body els a r=>by simp only[Sts.bare,okS,bareX_len,bareC_len,bareS_len,okX_z args,okC_z cond,okS_z body,okS_z els,okS_z r]
theorem okVs_z (xs:List Va):okVs (xs.map Va.bare)=okVs xs:=by
 unfold okVs allVa
 rw[List.all_map]
 rfl
theorem okTr_z (t:Tre):okTr t.bare=okTr t:=by
 unfold okTr okAs okPs allAr allPr
 simp only[Tre.bare,okVs_z,okS_z,List.all_map]
 congr 1
 refine List.all_congr rfl fun x=>?_
 simp only[Function.comp,Prc.bare,okVs_z,okS_z]
theorem szX_b:∀ {xs:Exs},szX xs→szX xs.bare
 | .nil,_=>trivial
 | .cons _ _ _ args _ r,h=>⟨h.1,szX_b h.2.1,szX_b h.2.2⟩
theorem szC_b:∀ {xs:Cds},szC xs→szC xs.bare
 | .nil,_=>trivial
 | .cons _ args of_ _ r,h=>⟨szX_b h.1,szC_b h.2.1,szC_b h.2.2⟩
theorem szS_b:∀ {xs:Sts},szS xs→szS xs.bare
 | .nil,_=>trivial
 | .cons _ _ args cond body els _ r,h=>⟨h.1,szX_b h.2.1,szC_b h.2.2.1,szS_b h.2.2.2.1,szS_b h.2.2.2.2.1,szS_b h.2.2.2.2.2⟩
theorem szT_b {t:Tre} (h:SzT t):SzT t.bare:=by
 refine⟨fun x hx=>?_,fun x hx=>?_,fun x hx=>?_,szS_b h.main⟩
 ·obtain⟨y,hy,rfl⟩:=List.mem_map.1 hx
  exact h.vars y hy
 ·obtain⟨y,hy,rfl⟩:=List.mem_map.1 hx
  exact h.arrays y hy
 ·obtain⟨y,hy,rfl⟩:=List.mem_map.1 hx
  obtain⟨k1,k2,k3⟩:=h.procs y hy
  refine⟨k1,fun z hz=>?_,szS_b k3⟩
  obtain⟨v,hv,rfl⟩:=List.mem_map.1 hz
  exact k2 v hv
theorem prB_b (t:Tre):prB t.bare=prB t:=by
 unfold prB
 rw[okTr_z,printB_alike (bareT_z t)]
theorem prE_b (t:Tre):prE t.bare=prE t:=by
 unfold prE
 rw[okTr_z]
theorem print_read {t:Tre} (h:okTr t=true) (hr:RgT t):((parseB (printB t)).2.2 =91∨(parseB (printB t)).2.2 =3)∨((parseB (printB t)).2.2 =0∧eqT false t (parseB (printB t)).1 =true):=by
 by_cases hl:(printB t).length ≤4096
 ·rcases parse_print h hr hl with k|⟨k1,k2⟩
  ·exact .inl (.inl k)
  ·exact .inr ⟨k1,eqT_alike k2.symm⟩
 ·refine .inl (.inr ?_)
  unfold parseB toks
  rw[if_pos (show 4096 < (printB t).length by omega)]
  rfl
set_option maxRecDepth 100000 in
set_option maxHeartbeats 3200000 in
theorem ptrees_any (t:Tre) (w:World) (S:Nat→Prop) (Z:Prop) (Av Aa Ap Am:Option Addr) (cv ca cp cm:Nat) (he:NameEnv w) (hS:∀b,S b→b < w.heap.size) (szt:SzT t) (hx:TrR w S Z t Av Aa Ap Am cv ca cp cm) (mt:mT t≤1048576):
  Calls Tryz.prog 4 #[trV t Av Aa Ap Am cv ca cp cm] w (TruePost w):=by
 have H1:=Lib.hid (fun W (h:Fr NoT w W)=>palive_any W (he.keep h.plain))
 have hSW:=fun(W:World) (hf:Fr NoT w W) b (hb:S b)=>Nat.lt_of_lt_of_le (hS b hb) hf.size
 have kx:=fun(W:World) (hf:Fr NoT w W)=>hx.keep (hf.same fun b hb=>⟨hS b hb,id⟩)
 have g1:=fun(W:World) (hf:Fr NoT w W)=>tgreat_any t W S Z Av Aa Ap Am cv ca cp cm (hSW W hf) (kx W hf)
 have p1:=fun(W:World) (hf:Fr NoT w W)=>print_any t W S Z Av Aa Ap Am cv ca cp cm (he.keep hf.plain) (hSW W hf) szt (kx W hf) (upto_room hx mt)
 have b1:=fun(W:World) (hf:Fr NoT w W)=>pbare_any t W S Z Av Aa Ap Am cv ca cp cm (hSW W hf) (kx W hf)
 have p2:=fun(W:World) (hf:Fr NoT w W) (S':Nat→Prop) (Bv Ba Bp Bm:Option Addr) (dv da dp dm:Nat) (hS':∀b,S' b→b < W.heap.size) (hy:TrR W S' False t.bare Bv Ba Bp Bm dv da dp dm)=>
  print_any t.bare W S' False Bv Ba Bp Bm dv da dp dm (he.keep hf.plain) hS' (szT_b szt) hy (by rw[okTr_z,treT_b];exact upto_room hx mt)
 have q1:=fun(W:World) (hf:Fr NoT w W) (S':Nat→Prop) (Bv Ba Bp Bm:Option Addr) (dv da dp dm:Nat) (hS':∀b,S' b→b < W.heap.size) (hy:TrR W S' False t.bare Bv Ba Bp Bm dv da dp dm)=>
  psame_any t t.bare W S S' Z False Av Aa Ap Am Bv Ba Bp Bm cv ca cp cm dv da dp dm (hSW W hf) hS' (kx W hf) hy
 rw[eqT_alike (bareT_z t).symm]at q1
 rw[prB_b,prE_b]at p2
 obtain⟨a,ha⟩:∃a:ByteArray,a=⟨(prB t).toArray⟩:=⟨_,rfl⟩
 obtain⟨e,hee⟩:∃e,e=prE t:=⟨_,rfl⟩
 have hroom:(prB t).length ≤140737488355328:=by
  unfold prB
  split
  ·rename_i h
   rw[printB_L]
   exact Nat.le_trans (wrtL_sum _ _) (upto_room hx mt h)
  ·exact Nat.zero_le _
 have has:a.size≤9223372036854775807:=by
  have:a.size=(prB t).length :=by rw[ha];show(prB t).toArray.size =_;simp
  omega
 have hal:a.data.toList=prB t:=by rw[ha]
 have r1:=fun W (h:Fr NoT w W)=>parse_any a has W (he.keep h.plain)
 have hlaw:(e=8∧a.toList.isEmpty=true)∨(e=0∧(((parseB (prB t)).2.2 =91∨(parseB (prB t)).2.2 =3)∨((parseB (prB t)).2.2 =0∧eqT false t (parseB (prB t)).1 =true))):=by
  cases h:okTr t
  ·refine .inl ⟨by rw[hee];unfold prE;rw[h];rfl,?_⟩
   rw[ha,ByteArray.toList_eq]
   unfold prB
   rw[h]
   rfl
  ·refine .inr ⟨by rw[hee];unfold prE;rw[h];rfl,?_⟩
   have e2:prB t=printB t:=if_pos h
   rw[e2]
   exact print_read h (rgT_of hx)
 rw[←ha,←hee]at p1 p2
 rw[hal]at r1
 obtain⟨⟨u,ap,g⟩,hq⟩:∃y,y=parseB (prB t):=⟨_,rfl⟩
 rw[←hq]at r1 hlaw
 have s1:=fun(hg:eqT false t u=true) (W:World) (hf:Fr NoT w W) (S':Nat→Prop) (Bv Ba Bp Bm:Option Addr) (dv da dp dm:Nat) (hS':∀b,S' b→b < W.heap.size) (hy:TrR W S' False u Bv Ba Bp Bm dv da dp dm)=>
  hg▸psame_any t u W S S' Z False Av Aa Ap Am Bv Ba Bp Bm cv ca cp cm dv da dp dm (hSW W hf) hS' (kx W hf) hy
 obtain⟨n1,hn1⟩:∃n,n=t.vars.length:=⟨_,rfl⟩
 obtain⟨n2,hn2⟩:∃n,n=t.arrays.length:=⟨_,rfl⟩
 obtain⟨n3,hn3⟩:∃n,n=t.procs.length:=⟨_,rfl⟩
 obtain⟨n4,hn4⟩:∃n,n=t.main.len:=⟨_,rfl⟩
 obtain⟨m1,hm1⟩:∃n,n=t.bare.vars.length:=⟨_,rfl⟩
 obtain⟨m2,hm2⟩:∃n,n=t.bare.arrays.length:=⟨_,rfl⟩
 obtain⟨m3,hm3⟩:∃n,n=t.bare.procs.length:=⟨_,rfl⟩
 obtain⟨m4,hm4⟩:∃n,n=t.bare.main.len:=⟨_,rfl⟩
 obtain⟨l1,hl1⟩:∃n,n=u.vars.length:=⟨_,rfl⟩
 obtain⟨l2,hl2⟩:∃n,n=u.arrays.length:=⟨_,rfl⟩
 obtain⟨l3,hl3⟩:∃n,n=u.procs.length:=⟨_,rfl⟩
 obtain⟨l4,hl4⟩:∃n,n=u.main.len:=⟨_,rfl⟩
 unfold PbP at b1
 unfold ParsP at r1
 unfold trV at g1 p1 b1 p2 q1 r1 s1 ⊢
 simp only at r1 hlaw
 simp only[←hn1,←hn2,←hn3,←hn4,←hm1,←hm2,←hm3,←hm4,←hl1,←hl2,←hl3,←hl4]at g1 p1 b1 p2 q1 r1 s1 ⊢
 obtain⟨w1,hw1⟩:∃y,y=w.alloc (.cells #[.slice Av n1 cv,.slice Aa n2 ca,.slice Ap n3 cp,.slice Am n4 cm] 27):=⟨_,rfl⟩
 have hf1:Fr NoT w w1:=by rw[hw1];exact(Fr.refl _ _).alloc _
 have kk:Bk w1 w.heap.size 27 #[.slice Av n1 cv,.slice Aa n2 ca,.slice Ap n3 cp,.slice Am n4 cm]:=by rw[hw1];exact Bk.new _ _ _
 have k5:(a.toList==a.toList)=true:=by simp
 have k6:(e != e)=false:=by simp
 have HW1:=Lib.hid hw1
 have HF1:=Lib.hid hf1
 have HK:=Lib.hid kk
 have G1:=Lib.hid g1
 have P1:=Lib.hid p1
 have B1:=Lib.hid b1
 have P2:=Lib.hid p2
 have Q1:=Lib.hid q1
 have R1:=Lib.hid r1
 have S1:=Lib.hid s1
 have HL:=Lib.hid hlaw
 clear hw1 hf1 kk g1 p1 b1 p2 q1 r1 s1 hlaw hn1 hn2 hn3 hn4 hm1 hm2 hm3 hm4 hl1 hl2 hl3 hl4 ha hee hq kx hSW he hS szt hx mt hroom has hal
 go_enter Tryz.func4,Tryz.ntmps4
 go_wp2_with fail
 rw[←HW1.out]
 refine(H1.out w1 HF1.out).mono ?_
 rintro _ w2 ⟨rfl,hb2⟩
 have HF2:=Lib.hid (HF1.out.trans (Fr.below hb2:Fr NoT w1 w2))
 have HK2:=Lib.hid (HK.out.fr0 (Fr.below hb2:Fr NoT w1 w2))
 clear hb2
 have ac0:=HK2.out.cell 0
 have ac1:=HK2.out.cell 1
 have ac2:=HK2.out.cell 2
 have ac3:=HK2.out.cell 3
 have al:=HK2.out.lt
 simp only[getsL]at ac0 ac1 ac2 ac3
 go_wp2_with fail
 go_at_call 15
 refine(G1.out w2 HF2.out).mono ?_
 rintro _ w3 ⟨r1,rfl,hb3⟩
 have HF3:=Lib.hid (HF2.out.trans hb3)
 have HK3:=Lib.hid (HK2.out.fr0 hb3)
 clear hb3
 clear ac0 ac1 ac2 ac3 al
 cases r1 with
 |true=>
  go_wp2_with fail
  go_ret
  exact⟨rfl,HF3.out.plain⟩
 |false=>
  have ac0:=HK3.out.cell 0
  have ac1:=HK3.out.cell 1
  have ac2:=HK3.out.cell 2
  have ac3:=HK3.out.cell 3
  have al:=HK3.out.lt
  simp only[getsL]at ac0 ac1 ac2 ac3
  go_wp2_with fail
  go_at_call 16
  refine(P1.out w3 HF3.out).mono ?_
  rintro _ w4 ⟨rfl,hf4⟩
  have HF4:=Lib.hid (HF3.out.trans hf4)
  have HK4:=Lib.hid (HK3.out.fr0 hf4)
  clear hf4
  clear ac0 ac1 ac2 ac3 al
  have ac0:=HK4.out.cell 0
  have ac1:=HK4.out.cell 1
  have ac2:=HK4.out.cell 2
  have ac3:=HK4.out.cell 3
  have al:=HK4.out.lt
  simp only[getsL]at ac0 ac1 ac2 ac3
  go_wp2_with fail
  go_at_call 18
  refine(B1.out w4 HF4.out).mono ?_
  rintro _ w5 ⟨Bv,Ba,Bp,Bm,dv,da,dp,dm,rfl,hT,hf5⟩
  obtain⟨W5,hW⟩:∃W,W=w5.alloc (.cells #[.slice Bv m1 dv,.slice Ba m2 da,.slice Bp m3 dp,.slice Bm m4 dm] 27):=⟨_,rfl⟩
  have hfa:Fr NoT w5 W5:=by rw[hW];exact(Fr.refl _ _).alloc _
  have hkb:Bk W5 w5.heap.size 27 #[.slice Bv m1 dv,.slice Ba m2 da,.slice Bp m3 dp,.slice Bm m4 dm]:=by rw[hW];exact Bk.new w5 _ _
  have HF5:=Lib.hid (HF4.out.trans (hf5.trans hfa))
  have HK5:=Lib.hid (HK4.out.fr0 (hf5.trans hfa))
  have HB5:=Lib.hid hkb
  have HT5:=Lib.hid (And.intro (fun b (hb:New w4.heap.size w5 b)=>Nat.lt_of_lt_of_le hb.2 hfa.size) (hT.keep (hfa.same fun b hb=>⟨hb.2,id⟩)))
  have HWE:=Lib.hid hW
  clear hf5 hfa hkb hT hW
  clear ac0 ac1 ac2 ac3 al
  go_wp2_with fail
  rw[←HWE.out]
  have ac0:=HK5.out.cell 0
  have ac1:=HK5.out.cell 1
  have ac2:=HK5.out.cell 2
  have ac3:=HK5.out.cell 3
  have al:=HK5.out.lt
  simp only[getsL]at ac0 ac1 ac2 ac3
  have bc0:=HB5.out.cell 0
  have bc1:=HB5.out.cell 1
  have bc2:=HB5.out.cell 2
  have bc3:=HB5.out.cell 3
  have bl:=HB5.out.lt
  simp only[getsL]at bc0 bc1 bc2 bc3
  go_wp2_with fail
  go_at_call 16
  refine(P2.out W5 HF5.out _ Bv Ba Bp Bm dv da dp dm HT5.out.1 HT5.out.2).mono ?_
  rintro _ w6 ⟨rfl,hf6⟩
  have HF6:=Lib.hid (HF5.out.trans hf6)
  have HK6:=Lib.hid (HK5.out.fr0 hf6)
  have HB6:=Lib.hid (HB5.out.fr0 hf6)
  have HT6:=Lib.hid (And.intro (fun b hb=>Nat.lt_of_lt_of_le (HT5.out.1 b hb) hf6.size) (HT5.out.2.keep (hf6.same fun b hb=>⟨HT5.out.1 b hb,id⟩)))
  clear hf6
  clear ac0 ac1 ac2 ac3 al
  clear bc0 bc1 bc2 bc3 bl
  have ac0:=HK6.out.cell 0
  have ac1:=HK6.out.cell 1
  have ac2:=HK6.out.cell 2
  have ac3:=HK6.out.cell 3
  have al:=HK6.out.lt
  simp only[getsL]at ac0 ac1 ac2 ac3
  have bc0:=HB6.out.cell 0
  have bc1:=HB6.out.cell 1
  have bc2:=HB6.out.cell 2
  have bc3:=HB6.out.cell 3
  have bl:=HB6.out.lt
  simp only[getsL]at bc0 bc1 bc2 bc3
  go_wp2_with fail
  go_at_call 17
  refine(Q1.out w6 HF6.out _ Bv Ba Bp Bm dv da dp dm HT6.out.1 HT6.out.2).mono ?_
  rintro _ w7 ⟨rfl,hf7⟩
  have HF7:=Lib.hid (HF6.out.trans hf7)
  have HK7:=Lib.hid (HK6.out.fr0 hf7)
  clear hf7
  clear ac0 ac1 ac2 ac3 al
  clear bc0 bc1 bc2 bc3 bl
  rcases HL.out with⟨rfl,h2⟩|⟨rfl,hl⟩
  ·go_wp2_with fail
   go_ret
   exact⟨rfl,HF7.out.plain⟩
  ·go_wp2_with fail
   refine(R1.out w7 HF7.out).mono ?_
   rintro _ w8 ⟨Bv,Ba,Bp,Bm,dv,da,dp,dm,rfl,hT,hb⟩
   have hf8:Fr NoT w7 w8:=Fr.below hb
   obtain⟨W8,hW⟩:∃W,W=w8.alloc (.cells #[.slice Bv l1 dv,.slice Ba l2 da,.slice Bp l3 dp,.slice Bm l4 dm] 27):=⟨_,rfl⟩
   have hfa:Fr NoT w8 W8:=by rw[hW];exact(Fr.refl _ _).alloc _
   have hkb:Bk W8 w8.heap.size 27 #[.slice Bv l1 dv,.slice Ba l2 da,.slice Bp l3 dp,.slice Bm l4 dm]:=by rw[hW];exact Bk.new w8 _ _
   have HF8:=Lib.hid (HF7.out.trans (hf8.trans hfa))
   have HK8:=Lib.hid (HK7.out.fr0 (hf8.trans hfa))
   have HB8:=Lib.hid hkb
   have HT8:=Lib.hid (And.intro (fun b (hb:New w7.heap.size w8 b)=>Nat.lt_of_lt_of_le hb.2 hfa.size) (hT.keep (hfa.same fun b hb=>⟨hb.2,id⟩)))
   have HWE2:=Lib.hid hW
   have HK7b:=Lib.hid (HK7.out.fr0 hf8)
   clear hf8 hfa hkb hT hW hb
   rcases hl with(rfl|rfl)|⟨rfl,hg⟩
   ·go_wp2_with fail
    rw[←HWE2.out]
    go_ret
    exact⟨rfl,HF8.out.plain⟩
   ·go_wp2_with fail
    rw[←HWE2.out]
    go_ret
    exact⟨rfl,HF8.out.plain⟩
   ·have HG:=Lib.hid hg
    clear hg
    have ac0:=HK7b.out.cell 0
    have ac1:=HK7b.out.cell 1
    have ac2:=HK7b.out.cell 2
    have ac3:=HK7b.out.cell 3
    have al:=HK7b.out.lt
    simp only[getsL]at ac0 ac1 ac2 ac3
    go_wp2_with fail
    rw[←HWE2.out]
    go_at_call 17
    refine(S1.out HG.out W8 HF8.out _ Bv Ba Bp Bm dv da dp dm HT8.out.1 HT8.out.2).mono ?_
    rintro _ w9 ⟨rfl,hf9⟩
    have HF9:=Lib.hid (HF8.out.trans hf9)
    clear hf9
    clear ac0 ac1 ac2 ac3 al
    go_wp2_with fail
    go_ret
    exact⟨rfl,HF9.out.plain⟩
end Go.Proofs.YtobegfbdedgmpaaGreatDoor
