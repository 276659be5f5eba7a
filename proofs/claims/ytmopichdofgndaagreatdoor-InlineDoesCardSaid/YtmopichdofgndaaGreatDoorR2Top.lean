/-
  facetroomref12: Inline. Printed by wip/gen_in/reg.py out of gen_r2/R2Top.src.
-/
import Derived.Test.YtmopichdofgndaaGreatDoorJgR2St2
import Derived.Test.YtmopichdofgndaaGreatDoorR2App
import Derived.Test.YtmopichdofgndaaGreatDoorJgRtTree
set_option linter.unusedVariables false
set_option linter.unusedSimpArgs false
namespace Go.Proofs.YtmopichdofgndaaGreatDoor
open Go.RowKit Go.Shelf Go.Maps

theorem vaR_lax2 {w:World} {S:Nat→Prop} {Z:Prop}:∀ {xs:List Va} {b o:Nat},VaR w S Z xs b o→VaR w S False xs b o
 | [],_,_,h=>h
 |_::_,_,_,⟨⟨h1,_,h3⟩,h4⟩=>⟨⟨h1,fun h=>h.elim,h3⟩,vaR_lax2 h4⟩
theorem prR_lax {w:World} {S:Nat→Prop} {Z:Prop}:∀ {xs:List Prc} {b o:Nat},PrR w S Z xs b o→PrR w S False xs b o
 | [],_,_,h=>h
 |_::_,_,_,⟨⟨h1,_,h3⟩,⟨A,c,e1,h4⟩,⟨B,d,e2,h5⟩,h6⟩=>⟨⟨h1,fun h=>h.elim,h3⟩,⟨A,c,e1,h4.imp fun _ _=>vaR_lax2⟩,⟨B,d,e2,h5.imp fun _ _=>StR.lax⟩,prR_lax h6⟩
set_option maxRecDepth 100000 in
set_option maxHeartbeats 3200000 in
theorem rinl_any (t:Tre) (w:World) (S:Nat→Prop) (Z:Prop) (Av Aa Ap Am:Option Addr) (cv ca cp cm:Nat) (htab:Lib.TabIs Tryz.prog w "internal/strconv.uint64pow10" .u64 Lib.pow10Tab) (hS:∀b,S b→b < w.heap.size) (hsz:SzT t) (hx:TrR w S Z t Av Aa Ap Am cv ca cp cm):
  Calls Tryz.prog 9 #[trV t Av Aa Ap Am cv ca cp cm] w (InlP (inlT t) w):=by
 obtain⟨n1,hn1⟩:=nmq t.vars.length
 obtain⟨n2,hn2⟩:=nmq t.arrays.length
 obtain⟨n3,hn3⟩:=nmq t.procs.length
 obtain⟨n4,hn4⟩:=nmq t.main.len
 obtain⟨F,hF⟩:=nmq (treeC t)
 obtain⟨w1,hw1⟩:=nmq ((w.alloc (.cells #[.slice Av n1 cv,.slice Aa n2 ca,.slice Ap n3 cp,.slice Am n4 cm] 27)).alloc (.cells #[.slice none 0 0,.slice none 0 0,.slice none 0 0,.slice none 0 0] 27))
 have hf1:Fr NoT w w1:=by rw[hw1];exact((Fr.refl _ _).alloc _).alloc _
 have kk:=bk_two w #[.slice Av n1 cv,.slice Aa n2 ca,.slice Ap n3 cp,.slice Am n4 cm] #[.slice none 0 0,.slice none 0 0,.slice none 0 0,.slice none 0 0] 27 27
 rw[←hw1]at kk
 have hch:=rtree_any t w1 S Z Av Aa Ap Am cv ca cp cm (fun b hb=>ltq (hS b hb) hf1.size) hsz (hx.keep (hf1.same fun b hb=>⟨hS b hb,id⟩))
 unfold trV at hch ⊢
 rw[←hn1,←hn2,←hn3,←hn4,←hF]at hch
 rw[←hn1,←hn2,←hn3,←hn4]
 have HCH:=hdq hch
 have HN:=hdq (aiq hn1 (aiq hn2 (aiq hn3 hn4)))
 have HX:=hdq (aiq hS (aiq hsz (aiq hx htab)))
 have HW1:=hdq hw1
 have HF1:=hdq hf1
 have HK0:=hdq kk.1
 have HK1:=hdq kk.2
 have HFF:=hdq hF
 have HZ1:=hdq (show w1.heap.size=w.heap.size+2 from by rw[hw1];simp)
 clear hch hn1 hn2 hn3 hn4 hS hsz hx htab hw1 hf1 kk hF
 obtain⟨F1,F2⟩:=F
 go_enter Tryz.func9,Tryz.ntmps9
 go_wp2_with fail
 rw[←HW1.out]
 go_at_call 31
 refine HCH.out.mono ?_
 rintro _ w2 ⟨rfl,hf2⟩
 have HF2:=hdq hf2
 have HF02:=hdq (HF1.out.trans hf2)
 have hk0:=HK0.out.fr0 hf2
 have hk1:=HK1.out.fr0 hf2
 have HK02:=hdq hk0
 have HK12:=hdq hk1
 clear hf2
 by_cases h0:F2=0
 ·subst h0
  have g0:=hk0.cell 0
  have g2:=hk0.cell 2
  have gl:=hk0.lt
  simp only[getsL]at g0 g2
  have hok:OkT t:=treeC_no (by rw[←HFF.out])
  have HOK:=hdq hok
  obtain⟨csv,hcl,hrowv,honev,hnilv,hcsv⟩:=slV HX.out.2.2.1.vars
  obtain⟨iV,hiV,hzV,hsV,hbV⟩:=info_parts infoVa
  have HIV:=hdq (aiq hiV (aiq hzV (aiq hsV hbV)))
  have hn12:n1≤12:=by rw[HN.out.1];exact(fewT_iff.1 hok.few).1
  have happ:∀W,Fr NoT w2 W→csv.length=n1*2∧(Av=none→n1=0)∧(∀ad,Av=some ad→∀j u,csv[j]?=some u→W.cell? (ad.add j)=some u)∧(∀u∈csv,u.oneCell'=true):=fun W hf=>⟨by rw[HN.out.1];exact hcl,fun e=>by rw[HN.out.1];exact hnilv e,fun ad e j u hj=>by
   have h1:=hcsv ad e j u hj
   exact((HF02.out.trans hf).cell (cell_low h1) id).trans h1,honev⟩
  have HAPP:=hdq happ
  have HROWV:=hdq hrowv
  clear hk0 hk1 hok hcl hrowv honev hnilv hcsv hiV hzV hsV hbV happ
  go_wp2_with fail
  go_cut [6] (fun s6 wx=>∃(P:Nat) (vv:Value),s6= .pointer (some ⟨P,0,none⟩)∧Hid (Bk wx P 85 #[.slice Ap n3 cp,.int .i64 0,vv,.int .i64 0,.bool false])∧Hid (w2.heap.size≤P)∧Hid (wx.ownsRow w.heap.size 43 2 vv n1 csv)∧Hid (∀i,vv.ownBlock=some i→i≠P∧w2.heap.size≤i)∧Hid (Fr NoT w2 wx))
  case first=>
   refine wp_region_E (fun W'=>w.heap.size < W'.heap.size∧W'.cell? ⟨w.heap.size,2,none⟩=some (.slice Ap n3 cp)∧W'.cell? ⟨w.heap.size,0,none⟩=some (.slice Av n1 cv)) (fun i=>decide (i < 7)) (by kernel_rfl) ⟨gl,g2,g0⟩ (fun hHeld=>?_)
   refine wpE_pu 0 ?_
   try simp only[putsL]
   refine wpE_pu 2 ?_
   try simp only[putsL]
   refine wpE_tk 1 hHeld ?_
   try simp only[putsL]
   refine wpE_tk 3 hHeld ?_
   try simp only[putsL]
   refine wpE_two 4 6 rfl rfl (by kernel_rfl) (fun K' hK=>?_) (fun K' hK=>?_)
   ·refine step_append_any _ (by rfl) _ _ _ (by rfl) w.heap.size 43 iV (.agg #[.string ⟨#[]⟩,.int .i64 0]) 2 24 Tryz.underlying22 HIV.out.1 HIV.out.2.1 HIV.out.2.2.1 HIV.out.2.2.2 rfl (by decide) (.slice none 0 0) 0 [] (by rfl) (World.ownsRow_nil _ _ _ _) Av n1 cv csv (by rfl) (HAPP.out w2 (Fr.refl _ _)).2.1 (HAPP.out w2 (Fr.refl _ _)).1 (HAPP.out _ ((Fr.refl NoT w2).drew)).2.2.1 (HAPP.out w2 (Fr.refl _ _)).2.2.2 (by unfold maxLen;omega) (by omega) (by have h1:=HF02.out.size;have h2:=((Fr.refl NoT w2).drew).size;omega) ?_
    intro vv wA hown hg hsp
    rw[Nat.zero_add,List.nil_append]at hown
    obtain⟨Avv,cvv,hvv,_⟩:=row_slice hown
    subst hvv
    have hfA:Fr NoT w2 wA:=((Fr.refl NoT w2).drew).trans (Fr.grown hg fun g e _=>by simp[Value.ownBlock]at e)
    have hsA:w.heap.size < wA.heap.size∧wA.cell? ⟨w.heap.size,2,none⟩=some (.slice Ap n3 cp)∧wA.cell? ⟨w.heap.size,0,none⟩=some (.slice Av n1 cv):=⟨ltq gl hfA.size,(hfA.cell (p:=⟨w.heap.size,2,none⟩) gl id).trans g2,(hfA.cell (p:=⟨w.heap.size,0,none⟩) gl id).trans g0⟩
    try dsimp only
    refine hK _ _ (fun _ _=>hsA) ?_
    clear hK K' hHeld
    try simp only[putsL]
    refine wpE_pu 5 ?_
    try simp only[putsL]
    refine wpE_next 6 rfl (by kernel_rfl) (fun KK hK=>?_)
    go_simp
    obtain⟨wB,hwB⟩:=nmq (wA.alloc (.cells #[.slice none 0 0,.int .i64 0,.slice none 0 0,.int .i64 0,.bool false] 85))
    rw[←hwB]
    have hfAB:Fr NoT wA wB:=by rw[hwB];exact(Fr.refl _ _).alloc _
    have hkB:Bk wB wA.heap.size 85 #[.slice none 0 0,.int .i64 0,.slice none 0 0,.int .i64 0,.bool false]:=by rw[hwB];exact Bk.new _ _ _
    have hfB:=hfA.trans hfAB
    have hownB:=rw_keep hown hfAB fun _ _=>id
    have hgg:w2.heap.size≤wA.heap.size:=hfA.size
    have hnP:∀i,(Value.slice Avv n1 cvv).ownBlock =some i→i≠wA.heap.size∧w2.heap.size≤i:=fun i e=>⟨by have:=(row_lt hown e).2;omega,by
     rcases hsp with k|k
     ·rw[k]at e;simp[Value.ownBlock]at e
     ·rw[k]at e
      have:=Option.some.inj e
      have h9:w2.drew.heap.size=w2.heap.size:=rfl
      omega⟩
    have hsB:w.heap.size < wB.heap.size∧wB.cell? ⟨w.heap.size,2,none⟩=some (.slice Ap n3 cp)∧wB.cell? ⟨w.heap.size,0,none⟩=some (.slice Av n1 cv):=⟨ltq gl hfB.size,(hfB.cell (p:=⟨w.heap.size,2,none⟩) gl id).trans g2,(hfB.cell (p:=⟨w.heap.size,0,none⟩) gl id).trans g0⟩
    try dsimp only
    refine hK _ _ (fun _ _=>hsB) ?_
    clear hK KK hsA hsB hwB
    try simp only[putsL]
    have y0:=hkB.frozen 0
    have y1:=hkB.frozen 1
    have y2:=hkB.frozen 2
    have y3:=hkB.frozen 3
    have y4:=hkB.frozen 4
    have x0:=hkB.cell 0
    have x1:=hkB.cell 1
    have x2:=hkB.cell 2
    have x3:=hkB.cell 3
    have x4:=hkB.cell 4
    simp only[getsL]at x0 x1 x2 x3 x4
    have xl:=hkB.lt
    have HKB:=hdq hkB
    have HB:=hdq (aiq hfB hownB)
    clear hkB hfB hownB
    refine wpE_next 7 rfl (by kernel_rfl) (fun KK hK=>?_)
    go_simp
    refine hK _ _ (fun h=>absurd h (by decide)) ?_
    clear hK KK
    try simp only[putsL]
    refine wpE_done (by kernel_rfl) ?_
    go_wp2_with fail
    go_meet
    have hkf:=((((HKB.out.set_ 0 (.slice Ap n3 cp)).set_ 1 (.int .i64 0)).set_ 2 (.slice Avv n1 cvv)).set_ 3 (.int .i64 0)).set_ 4 (.bool false)
    have hgz:w2.heap.size≤wA.heap.size:=hgg
    exact⟨wA.heap.size,.slice Avv n1 cvv,rfl,hdq (by simpa using hkf),hdq hgg,hdq (rw_keep (T:=fun i=>i=wA.heap.size) HB.out.2 (Fr.own (Fr.own (Fr.own (Fr.own (Fr.own (Fr.refl _ _) _ _) _ _) _ _) _ _) _ _) fun i hi e=>(hnP i hi).1 e),hdq hnP,hdq (((((HB.out.1.high hgz _ _).high hgz _ _).high hgz _ _).high hgz _ _).high hgz _ _)⟩
   ·go_simp
    obtain⟨wA,hwA⟩:=nmq ((w2.alloc (.cells #[.slice none 0 0,.int .i64 0,.slice none 0 0,.int .i64 0,.bool false] 85)).drew )
    rw[←hwA]
    have hfA:Fr NoT w2 wA:=by rw[hwA];exact((Fr.refl _ _).alloc _).drew
    have hkA:Bk wA w2.heap.size 85 #[.slice none 0 0,.int .i64 0,.slice none 0 0,.int .i64 0,.bool false]:=by rw[hwA];exact(Bk.new _ _ _).fr0 ((Fr.refl _ _).drew)
    have hsA:w.heap.size < wA.heap.size∧wA.cell? ⟨w.heap.size,2,none⟩=some (.slice Ap n3 cp)∧wA.cell? ⟨w.heap.size,0,none⟩=some (.slice Av n1 cv):=⟨ltq gl hfA.size,(hfA.cell (p:=⟨w.heap.size,2,none⟩) gl id).trans g2,(hfA.cell (p:=⟨w.heap.size,0,none⟩) gl id).trans g0⟩
    try dsimp only
    refine hK _ _ (fun _ _=>hsA) ?_
    clear hK K' hHeld hwA
    try simp only[putsL]
    refine wpE_next 4 rfl (by kernel_rfl) (fun KK hK=>?_)
    refine step_append_any _ (by rfl) _ _ _ (by rfl) w.heap.size 43 iV (.agg #[.string ⟨#[]⟩,.int .i64 0]) 2 24 Tryz.underlying22 HIV.out.1 HIV.out.2.1 HIV.out.2.2.1 HIV.out.2.2.2 rfl (by decide) (.slice none 0 0) 0 [] (by rfl) (World.ownsRow_nil _ _ _ _) Av n1 cv csv (by rfl) (HAPP.out w2 (Fr.refl _ _)).2.1 (HAPP.out w2 (Fr.refl _ _)).1 (HAPP.out _ hfA).2.2.1 (HAPP.out w2 (Fr.refl _ _)).2.2.2 (by unfold maxLen;omega) (by omega) (by have h1:=HF02.out.size;have h2:=hfA.size;omega) ?_
    intro vv wB hown hg hsp
    rw[Nat.zero_add,List.nil_append]at hown
    obtain⟨Avv,cvv,hvv,_⟩:=row_slice hown
    subst hvv
    have hfAB:Fr NoT wA wB:=Fr.grown hg fun g e _=>by simp[Value.ownBlock]at e
    have hkB:=hkA.fr0 hfAB
    have hfB:=hfA.trans hfAB
    have hownB:=hown
    have hgg:w2.heap.size≤w2.heap.size:=lrq _
    have hnP:∀i,(Value.slice Avv n1 cvv).ownBlock =some i→i≠w2.heap.size∧w2.heap.size≤i:=fun i e=>by
     rcases hsp with k|k
     ·rw[k]at e;simp[Value.ownBlock]at e
     ·rw[k]at e;have:=Option.some.inj e;have:=hkA.lt;exact⟨by omega,by omega⟩
    have hsB:w.heap.size < wB.heap.size∧wB.cell? ⟨w.heap.size,2,none⟩=some (.slice Ap n3 cp)∧wB.cell? ⟨w.heap.size,0,none⟩=some (.slice Av n1 cv):=⟨ltq gl hfB.size,(hfB.cell (p:=⟨w.heap.size,2,none⟩) gl id).trans g2,(hfB.cell (p:=⟨w.heap.size,0,none⟩) gl id).trans g0⟩
    try dsimp only
    refine hK _ _ (fun _ _=>hsB) ?_
    clear hK KK hsA hsB
    try simp only[putsL]
    refine wpE_pu 5 ?_
    try simp only[putsL]
    have y0:=hkB.frozen 0
    have y1:=hkB.frozen 1
    have y2:=hkB.frozen 2
    have y3:=hkB.frozen 3
    have y4:=hkB.frozen 4
    have x0:=hkB.cell 0
    have x1:=hkB.cell 1
    have x2:=hkB.cell 2
    have x3:=hkB.cell 3
    have x4:=hkB.cell 4
    simp only[getsL]at x0 x1 x2 x3 x4
    have xl:=hkB.lt
    have HKB:=hdq hkB
    have HB:=hdq (aiq hfB hownB)
    clear hkB hfB hownB
    refine wpE_next 7 rfl (by kernel_rfl) (fun KK hK=>?_)
    go_simp
    refine hK _ _ (fun h=>absurd h (by decide)) ?_
    clear hK KK
    try simp only[putsL]
    refine wpE_done (by kernel_rfl) ?_
    go_wp2_with fail
    go_meet
    have hkf:=((((HKB.out.set_ 0 (.slice Ap n3 cp)).set_ 1 (.int .i64 0)).set_ 2 (.slice Avv n1 cvv)).set_ 3 (.int .i64 0)).set_ 4 (.bool false)
    have hgz:w2.heap.size≤w2.heap.size:=hgg
    exact⟨w2.heap.size,.slice Avv n1 cvv,rfl,hdq (by simpa using hkf),hdq hgg,hdq (rw_keep (T:=fun i=>i=w2.heap.size) HB.out.2 (Fr.own (Fr.own (Fr.own (Fr.own (Fr.own (Fr.refl _ _) _ _) _ _) _ _) _ _) _ _) fun i hi e=>(hnP i hi).1 e),hdq hnP,hdq (((((HB.out.1.high hgz _ _).high hgz _ _).high hgz _ _).high hgz _ _).high hgz _ _)⟩
  case rest=>
   obtain⟨P,vv,rfl,hP,hPz,hrow,hne,hF⟩:=hcut
   have hok:=HOK.out
   obtain⟨K,hKd⟩:∃K:RK,K=⟨w,S,P,Ap,cp,t.procs,procsOf t.procs⟩:=⟨_,rfl⟩
   have hin:∀x∈t.procs,in64 x.at_∧∀v∈x.params,in64 v.at_:=fun x hm=>by
    obtain⟨b,o,_,h⟩:=HX.out.2.2.1.procs.2.2 (List.length_pos_iff.2 fun e=>by rw[e]at hm;simp at hm)
    exact prR_in h x hm
   have hOk:K.Ok:=by
    rw[hKd]
    exact⟨HX.out.2.2.2,HX.out.1,HX.out.2.2.1.procs.imp fun _ _=>prR_lax,fun i x hi=>procs_first (names_fresh hok) (List.mem_of_getElem? hi),fun y x e=>procsOf_in e,fun y x e=>procs_few2 hok HX.out.2.1 hin e⟩
   have hfx:Fr NoT w wc:=HF02.out.trans hF.out
   have hz02:=HF02.out.size
   have hfl0:fullB ⟨0,t.vars,0⟩=false:=by
    unfold fullB
    have:=HN.out.1
    simp only[Bool.or_eq_false_iff,decide_eq_false_iff_not]
    omega
   have h7:RkAt K wc ⟨0,t.vars,0⟩ vv:=by
    unfold RkAt
    rw[hfl0,hKd]
    refine⟨hfx,?_,⟨csv,?_,(RowR.imp (w':=w) oneV_keep (SameS.refl _ _) (fun _ _=>trivial) HROWV.out:RowR oneV w (fun _=>True) t.vars csv).any⟩,by have:=hPz.out;show w.heap.size≤P;omega,fun e=>(hne.out _ e).1 rfl,by show 0≤261;omega,by show 0≤0+1;omega,?_⟩
    ·have:=hP.out
     rw[HN.out.2.2.1]at this
     exact this
    ·have:=hrow.out
     rw[HN.out.1]at this
     exact this
    ·have:=HN.out.1
     show t.vars.length≤36
     omega
   have hstm:=rstc_all hOk t.procs.length t.main (by rw[hKd];exact main_low hok) (main_nm hok) wc ⟨0,t.vars,0⟩ vv (fun _=>none) Am cm [] [] none none 0 0 (fun _=>False) h7 (lrq _) ⟨⟨lrq 0,by decide,fun h=>absurd h (Nat.lt_irrefl 0)⟩,⟨lrq 0,by decide,fun h=>absurd h (Nat.lt_irrefl 0)⟩,rfl,fun _=>rfl⟩ (fun b hb=>hb.elim) rfl (by rw[hKd];exact HX.out.2.2.1.main.imp fun _ _=>StR.lax)
   have hQ:inlF K.procs t.procs.length t.main (fun _=>none) ⟨0,t.vars,0⟩=inlQ t:=by rw[hKd];rfl
   have hPe:K.P=P:=by rw[hKd]
   rw[hQ,hPe,←HN.out.2.2.2]at hstm
   simp only[List.length_nil]at hstm
   have HSTM:=hdq hstm
   have HKd:=hdq hKd
   have HOk:=hdq hOk
   have HFX:=hdq hfx
   have HKU:=hdq (HK12.out.fr0 hF.out)
   have HKT:=hdq (HK02.out.fr0 hF.out)
   have HVL:=hdq (show ∀i,vv.ownBlock=some i→w2.heap.size≤i∧i < wc.heap.size from fun i hi=>⟨(hne.out i hi).2,(row_lt hrow.out hi).2⟩)
   have HZ:=hdq (show w.heap.size+2≤P∧P < wc.heap.size∧w.heap.size+2≤w2.heap.size∧w2.heap.size≤P from⟨by have h1:=HF2.out.size;have h2:=HZ1.out;have h3:=hPz.out;omega,hP.out.lt,by have h1:=HF2.out.size;have h2:=HZ1.out;omega,hPz.out⟩)
   have b3:=(HKT.out).cell 3
   have bl3:=(HKT.out).lt
   simp only[getsL]at b3
   clear hok hin hOk hfx hfl0 h7 hstm hQ hPe hKd g0 g2 gl
   go_wp2_with fail
   go_at_call 32
   refine HSTM.out.mono ?_
   rintro _ w8 ⟨v8,vo8,acc8,cs8,rfl,h8,hout8,hr8,hf8,hsp8,hm8,hc8⟩
   obtain⟨A8,c8,hvo8,hb8⟩:=hout8.slice (by have:=h8.most.1;omega)
   subst hvo8
   obtain⟨csv8,hrow8,hrows8⟩:=h8.row
   obtain⟨V8,cV8,hv8,_⟩:=row_slice hrow8
   subst hv8
   have hPe:K.P=P:=by rw[HKd.out]
   have hz:=HZ.out
   have hnT:∀i,i < w2.heap.size→¬RT K vv i:=fun i hi e=>by
    rcases e with e|e
    ·rw[hPe]at e;omega
    ·have:=HVL.out i e;omega
   have hku8:=HKU.out.fr hf8 (hnT _ (by omega))
   have hkt8:=HKT.out.fr hf8 (hnT _ (by omega))
   have hfw8:Fr NoT w w8:=Fr.thenT HFX.out hf8 fun i hi e=>hnT i (by omega) e
   have hz8:wc.heap.size≤w8.heap.size:=hf8.size
   have hp8:=h8.bk
   rw[hPe]at hp8
   obtain⟨s8,hs8⟩:=nmq ((inlQ t).2 )
   rw[←hs8]at hp8 hrow8 hrows8
   have hvb:∀i,(Value.slice V8 s8.vars.length cV8).ownBlock =some i→¬i=w.heap.size+1:=fun i hi e=>by
    rw[hs8]at hi
    rcases hsp8 with k9|⟨g9,k9,hg9⟩
    ·have:=HVL.out i (k9▸hi);omega
    ·rw[k9]at hi;have:=Option.some.inj hi;omega
   have hacc8:acc8.length≤261:=by have:=h8.most.1;omega
   obtain⟨vl,hvl⟩:=nmq s8.vars.length
   rw[←hvl]at hp8 hvb
   have p2:=hp8.cell 2
   have p4:=hp8.cell 4
   have pl:=hp8.lt
   have q1:=hkt8.cell 1
   have ql:=hkt8.lt
   have z0:=hku8.frozen 0
   have z1:=hku8.frozen 1
   have z2:=hku8.frozen 2
   have z3:=hku8.frozen 3
   have y0:=hku8.cell 0
   have y1:=hku8.cell 1
   have y2:=hku8.cell 2
   have y3:=hku8.cell 3
   have yl:=hku8.lt
   simp only[getsL]at p2 p4 q1 y0 y1 y2 y3
   have H8:=hdq (aiq hb8 (aiq hrow8 (aiq hrows8 (aiq hr8 (aiq hvb hacc8)))))
   have HS8:=hdq (aiq hs8 hvl)
   have HKU8:=hdq hku8
   have HFW8:=hdq hfw8
   have HZ8:=hdq hz8
   clear hb8 hrow8 hrows8 hr8 hvb hacc8 hs8 hvl hku8 hkt8 hfw8 hp8 hz8 hPe hnT hf8 hsp8 hm8 hc8 h8 hout8 b3 bl3
   cases hfl:fullB s8 with
   |true=>
    have HR:=hdq (show inlT t=(noTre,9)from by unfold inlT;rw[←HFF.out,if_pos rfl,←HS8.out.1,hfl];rfl)
    rw[hfl]at p4
    obtain⟨wf,hwf⟩:=nmq ((((w8.setCell ⟨w.heap.size+1,0,none⟩ (.slice none 0 0)).setCell ⟨w.heap.size+1,1,none⟩ (.slice none 0 0)).setCell ⟨w.heap.size+1,2,none⟩ (.slice none 0 0)).setCell ⟨w.heap.size+1,3,none⟩ (.slice none 0 0))
    have hff:Fr NoT w wf:=by rw[hwf];exact(((HFW8.out.high (by omega) _ _).high (by omega) _ _).high (by omega) _ _).high (by omega) _ _
    have hkf:Bk wf (w.heap.size+1) 27 #[.slice none 0 0,.slice none 0 0,.slice none 0 0,.slice none 0 0]:=by
     have:=(((HKU8.out.set_ 0 (.slice none 0 0)).set_ 1 (.slice none 0 0)).set_ 2 (.slice none 0 0)).set_ 3 (.slice none 0 0)
     rw[hwf];simpa using this
    have HWF:=hdq hwf
    have HFF2:=hdq hff
    have HKF:=hdq hkf
    clear hwf hff hkf hfl hz
    go_wp2_with fail
    rw[←HWF.out]
    refine bodyPost_ret (res_cell_tmp (p:=2) (q:=3) (ty:=27) rfl _ _ (w.heap.size+1) 27 _ (0,0) _ rfl HKF.out Tryz.underlying27 rfl sizeTr) rfl ?_
    rw[HR.out]
    exact⟨none,none,none,none,0,0,0,0,rfl,noTre_at _ _,HFF2.out⟩
   |false=>
    have HR:=hdq (show inlT t=(⟨s8.vars,t.arrays, [],stsOf acc8⟩,0)from by
     unfold inlT
     rw[←HFF.out,if_pos rfl,←HS8.out.1,hfl]
     simp only[Bool.false_eq_true,if_false,H8.out.2.2.2.1])
    rw[hfl]at p4
    obtain⟨csa,hcla,hrowa,honea,hnila,hcsa⟩:=slA HX.out.2.2.1.arrays
    obtain⟨iA,hiA,hzA,hsA,hbA⟩:=info_parts infoAr
    have HIA:=hdq (aiq hiA (aiq hzA (aiq hsA hbA)))
    have hal:n2*32≤140737488355328:=by rw[HN.out.2.1];exact HX.out.2.2.1.arrays.2.1.2
    have happ:∀W,Fr NoT w8 W→csa.length=n2*3∧(Aa=none→n2=0)∧(∀ad,Aa=some ad→∀j u,csa[j]?=some u→W.cell? (ad.add j)=some u)∧(∀u∈csa,u.oneCell'=true):=fun W hf=>⟨by rw[HN.out.2.1];exact hcla,fun e=>by rw[HN.out.2.1];exact hnila e,fun ad e j u hj=>by
     have h1:=hcsa ad e j u hj
     exact((HFW8.out.trans hf).cell (cell_low h1) id).trans h1,honea⟩
    have HAPA:=hdq happ
    have HROWA:=hdq hrowa
    have HFL:=hdq hfl
    clear hcla hrowa honea hnila hcsa hiA hzA hsA hbA happ hfl
    go_wp2_with fail
    refine wp_region_E (fun W'=>P < W'.heap.size∧w.heap.size < W'.heap.size∧W'.cell? ⟨P,2,none⟩=some (.slice V8 vl cV8)∧W'.cell? ⟨w.heap.size,1,none⟩=some (.slice Aa n2 ca)) (fun i=>decide (i < 7)) (by kernel_rfl) ⟨pl,ql,p2,q1⟩ (fun hHeld=>?_)
    refine wpE_pu 0 ?_
    try simp only[putsL]
    refine wpE_pu 2 ?_
    try simp only[putsL]
    refine wpE_pu 5 ?_
    try simp only[putsL]
    refine wpE_tk 1 hHeld ?_
    try simp only[putsL]
    refine wpE_tk 3 hHeld ?_
    try simp only[putsL]
    refine wpE_next 4 rfl (by kernel_rfl) (fun KK hK=>?_)
    refine step_append_any _ (by rfl) _ _ _ (by rfl) w.heap.size 66 iA (.agg #[.string ⟨#[]⟩,.int .i64 0,.int .i64 0]) 3 32 Tryz.underlying23 HIA.out.1 HIA.out.2.1 HIA.out.2.2.1 HIA.out.2.2.2 rfl (by decide) (.slice none 0 0) 0 [] (by rfl) (World.ownsRow_nil _ _ _ _) Aa n2 ca csa (by rfl) (HAPA.out w8 (Fr.refl _ _)).2.1 (HAPA.out w8 (Fr.refl _ _)).1 (HAPA.out _ ((Fr.refl NoT w8).drew)).2.2.1 (HAPA.out w8 (Fr.refl _ _)).2.2.2 (by unfold maxLen;omega) (by omega) HFW8.out.size ?_
    intro va w10 hown hg hsp
    rw[Nat.zero_add,List.nil_append]at hown
    obtain⟨Ax,cx,hva,_⟩:=row_slice hown
    subst hva
    have hf10:Fr NoT w8 w10:=((Fr.refl NoT w8).drew).trans (Fr.grown hg fun g e _=>by simp[Value.ownBlock]at e)
    have hax:∀i,(Value.slice Ax n2 cx).ownBlock =some i→¬i=w.heap.size+1:=fun i hi e=>by
     rcases hsp with k|k
     ·rw[k]at hi;simp[Value.ownBlock]at hi
     ·rw[k]at hi
      have:=Option.some.inj hi
      have h9:w8.drew.heap.size=w8.heap.size:=rfl
      omega
    have hs10:P < w10.heap.size∧w.heap.size < w10.heap.size∧w10.cell? ⟨P,2,none⟩=some (.slice V8 vl cV8)∧w10.cell? ⟨w.heap.size,1,none⟩=some (.slice Aa n2 ca):=⟨ltq pl hf10.size,ltq ql hf10.size,(hf10.cell (p:=⟨P,2,none⟩) pl id).trans p2,(hf10.cell (p:=⟨w.heap.size,1,none⟩) ql id).trans q1⟩
    have hk10:=HKU8.out.fr0 hf10
    clear z0 z1 z2 z3 y0 y1 y2 y3
    have z0:=hk10.frozen 0
    have z1:=hk10.frozen 1
    have z2:=hk10.frozen 2
    have z3:=hk10.frozen 3
    have y0:=hk10.cell 0
    have y1:=hk10.cell 1
    have y2:=hk10.cell 2
    have y3:=hk10.cell 3
    have yl':=hk10.lt
    simp only[getsL]at y0 y1 y2 y3
    have HF10:=hdq hf10
    have HK10:=hdq hk10
    have HOA:=hdq (aiq hown hax)
    clear hf10 hk10 hown hHeld hg hsp hax
    try dsimp only
    refine hK _ _ (fun _ _=>hs10) ?_
    clear hK KK hs10
    try simp only[putsL]
    refine wpE_pu 6 ?_
    try simp only[putsL]
    refine wpE_next 7 rfl (by kernel_rfl) (fun KK hK=>?_)
    go_simp
    refine hK _ _ (fun h=>absurd h (by decide)) ?_
    clear hK KK
    try simp only[putsL]
    refine wpE_next 8 rfl (by kernel_rfl) (fun KK hK=>?_)
    go_simp
    refine hK _ _ (fun h=>absurd h (by decide)) ?_
    clear hK KK
    try simp only[putsL]
    refine wpE_done (by kernel_rfl) ?_
    obtain⟨wf,hwf⟩:=nmq ((((w10.setCell ⟨w.heap.size+1,0,none⟩ (.slice V8 vl cV8)).setCell ⟨w.heap.size+1,1,none⟩ (.slice Ax n2 cx)).setCell ⟨w.heap.size+1,2,none⟩ (.slice none 0 0)).setCell ⟨w.heap.size+1,3,none⟩ (.slice A8 acc8.length c8))
    rw[←hwf]
    have hff0:Fr (fun i=>i=w.heap.size+1) w10 wf:=by rw[hwf];exact Fr.own (Fr.own (Fr.own (Fr.own (Fr.refl _ _) _ _) _ _) _ _) _ _
    have hff:Fr NoT w wf:=Fr.thenT (HFW8.out.trans HF10.out) hff0 fun i hi e=>by have e:i=w.heap.size+1:=e;omega
    have hkf:Bk wf (w.heap.size+1) 27 #[.slice V8 vl cV8,.slice Ax n2 cx,.slice none 0 0,.slice A8 acc8.length c8]:=by
     have:=(((HK10.out.set_ 0 (.slice V8 vl cV8)).set_ 1 (.slice Ax n2 cx)).set_ 2 (.slice none 0 0)).set_ 3 (.slice A8 acc8.length c8)
     rw[hwf];simpa using this
    have HFF0:=hdq hff0
    have HFF2:=hdq hff
    have HKF:=hdq hkf
    clear hwf hff hff0 hkf z0 z1 z2 z3 y0 y1 y2 y3 yl p2 pl q1 ql yl'
    go_wp2_with fail
    refine bodyPost_ret (res_cell_tmp (p:=2) (q:=3) (ty:=27) rfl _ _ (w.heap.size+1) 27 _ (0,0) _ rfl HKF.out Tryz.underlying27 rfl sizeTr) rfl ?_
    rw[HR.out]
    obtain⟨hb8,hrow8,hrows8,hr8,hvb,hacc8⟩:=H8.out
    have hz10:=HF10.out.size
    have hz8:=HZ8.out
    have hzf:=HFF0.out.size
    have hrowf:wf.ownsRow w.heap.size 43 2 (.slice V8 s8.vars.length cV8) s8.vars.length csv8:=by
     rw[HKd.out]at hrow8
     exact rw_keep (rw_keep hrow8 HF10.out fun _ _=>id) HFF0.out (by rw[HS8.out.2]at hvb;exact hvb)
    have hrowaf:wf.ownsRow w.heap.size 66 3 (.slice Ax t.arrays.length cx) t.arrays.length csa:=by
     have h1:=HOA.out.1
     have h2:=HOA.out.2
     rw[HN.out.2.1]at h1 h2
     exact rw_keep h1 HFF0.out h2
    have h9:s8.vars.length≤32:=by
     have h8:=HFL.out
     unfold fullB at h8
     simp only[Bool.or_eq_false_iff,decide_eq_false_iff_not]at h8
     omega
    obtain⟨B1,d1,e1,hsl1⟩:=RowR.slice oneV_keep (sz:=24) hrowf (RowR.anyV hrows8) (by omega) (P:=fun b o=>VaR wf (New w.heap.size wf) True s8.vars b o) fun g hg hr hc=>rowV (o:=0) hg hr fun j u hj=>by rw[Nat.zero_add];exact hc j u hj
    obtain⟨B2,d2,e2,hsl2⟩:=RowR.slice oneA_keep (sz:=32) hrowaf (RowR.anyA HROWA.out) (by exact HX.out.2.2.1.arrays.2.1.2) (P:=fun b o=>ArR wf (New w.heap.size wf) True t.arrays b o) fun g hg hr hc=>rowA (o:=0) hg hr fun j u hj=>by rw[Nat.zero_add];exact hc j u hj
    injection e1 with e11 _ e12
    injection e2 with e21 _ e22
    subst e11 e12 e21 e22
    have hml:(stsOf acc8).len =acc8.length:=stsOf_len acc8
    refine⟨V8,Ax,none,A8,cV8,cx,0,c8,?_,⟨hsl1,hsl2,slr0,?_⟩,HFF2.out⟩
    ·simp only[trV,hml,List.length_nil,HS8.out.2,HN.out.2.1]
     rfl
    ·show SlR _ (stsOf acc8).len 128 A8 c8
     rw[hml]
     exact hb8.imp fun _ _ hx=>StR.more (fun i hi=>⟨by have:=hi.1;omega,by have:=hi.2.1;omega⟩) (StR.keep ((HF10.out.same fun i hi=>⟨hi.2.1,id⟩).trans (HFF0.out.same fun i hi=>⟨by have:=hi.2.1;omega,fun e=>by have e:i=w.heap.size+1:=e;have:=hi.1;omega⟩)) hx)
 ·have h0':¬F2=0:=h0
  have z0:=hk1.frozen 0
  have z1:=hk1.frozen 1
  have z2:=hk1.frozen 2
  have z3:=hk1.frozen 3
  have y0:=hk1.cell 0
  have y1:=hk1.cell 1
  have y2:=hk1.cell 2
  have y3:=hk1.cell 3
  have yl:=hk1.lt
  simp only[getsL]at y0 y1 y2 y3
  have HR:=hdq (show inlT t=(noTre,F2)from by unfold inlT;rw[←HFF.out,if_neg h0])
  clear hk0 hk1
  obtain⟨wf,hwf⟩:=nmq ((((w2.setCell ⟨w.heap.size+1,0,none⟩ (.slice none 0 0)).setCell ⟨w.heap.size+1,1,none⟩ (.slice none 0 0)).setCell ⟨w.heap.size+1,2,none⟩ (.slice none 0 0)).setCell ⟨w.heap.size+1,3,none⟩ (.slice none 0 0))
  have hff:Fr NoT w wf:=by rw[hwf];exact(((HF02.out.high (by omega) _ _).high (by omega) _ _).high (by omega) _ _).high (by omega) _ _
  have hkf:Bk wf (w.heap.size+1) 27 #[.slice none 0 0,.slice none 0 0,.slice none 0 0,.slice none 0 0]:=by
   have:=(((HK12.out.set_ 0 (.slice none 0 0)).set_ 1 (.slice none 0 0)).set_ 2 (.slice none 0 0)).set_ 3 (.slice none 0 0)
   rw[hwf];simpa using this
  have HWF:=hdq hwf
  have HFF2:=hdq hff
  have HKF:=hdq hkf
  clear hwf hff hkf
  go_wp2_with fail
  rw[←HWF.out]
  refine bodyPost_ret (res_cell_tmp (p:=2) (q:=3) (ty:=27) rfl _ _ (w.heap.size+1) 27 _ (0,0) _ rfl HKF.out Tryz.underlying27 rfl sizeTr) rfl ?_
  rw[HR.out]
  exact⟨none,none,none,none,0,0,0,0,rfl,noTre_at _ _,HFF2.out⟩
end Go.Proofs.YtmopichdofgndaaGreatDoor
