/-
  parse, of what ends well: a statement that sets a scalar. Printed by wip/gen_sl/set.py out of PfSet2.
-/
import Derived.Test.YtphlnpaikpjakaaGreatDoorJnSt
set_option linter.unusedVariables false
set_option linter.unusedSimpArgs false
namespace Go.Proofs.YtphlnpaikpjakaaGreatDoor
open Go.RowKit Go.Shelf

set_option maxRecDepth 100000 in
set_option maxHeartbeats 1600000 in
theorem stmt_set0 (C:Pcx) (l:List Tk) (d:Nat) (w:World) (x:Ex) (r3:List Tk) (hk0:keyK (hdT l).text =0) (hnm:namedB l=true) (hnb:mayB [91] l.tail=false) (heq:mayB [61] l.tail=true) (hex:exprQ l.tail.tail= .ok x r3) (hse:mayB [59] r3=true) (hk:C.Ok) (h:PaAt C w l d):
  Calls Tryz.prog 96 #[.pointer (some ⟨C.P,0,none⟩)] w (EndK C d StVal ⟨2,txt (hdT l),x.cons .nil,.nil,.nil,.nil,(hdT l).at_⟩ r3.tail w):=by
 obtain⟨X,hX⟩:∃X:St,X=⟨2,txt (hdT l),x.cons .nil,.nil,.nil,.nil,(hdT l).at_⟩:=⟨_,rfl⟩
 rw[←hX]
 have HXX:=hdq hX
 obtain⟨r,hr⟩:=nmq l.tail
 rw[←hr]at hnb heq hex
 obtain⟨k,hkk⟩:=nmq (keyK (hdT l).text )
 rw[←hkk]at hk0
 have HRT:=hdq hr
 have HNM:=hdq hnm
 have HNB2:=hdq hnb
 have HEQ:=hdq heq
 have HEX:=hdq hex
 have HSE:=hdq hse
 clear hX hr hnm hnb heq hex hse
 obtain⟨i0,hi,hz0,hz1,hz2⟩:=info_parts infoEx
 have HI:=hdq (aiq hi (aiq hz0 (aiq hz1 hz2)))
 clear hi hz0 hz1 hz2
 have hL:=h.lts
 obtain⟨j,cap,m,hm0,hm1,hl,hmc,hcm,hb,p0,p1,f0,f1,t0,t1,t2,ltP,ltT⟩:=h.cells
 have hm2:m≤9223372036854775807:=by omega
 have hm3:(0:Int) < (m:Int):=by omega
 have htl:(hdT l).text.length ≤4096:=by
  have hd:=drop_head hl h.ne
  exact hk.len _ (List.mem_of_getElem? hd.1)
 obtain⟨a,ha⟩:∃a:Int,a=((hdT l).at_ :Int):=⟨_,rfl⟩
 obtain⟨tx,htx⟩:=nmq (txt (hdT l))
 have h64:in64 a:=by rw[ha];exact in64_at hk h
 rw[←ha]at t2
 rw[←htx]at t1
 have HA:=hdq ha
 have H64:=hdq h64
 obtain⟨w1,hw1⟩:=nmq ((w.alloc (.cells zeroSt 133)).alloc (.cells #[.int .u8 0,.string ⟨#[]⟩,.slice none 0 0,.slice none 0 0,.slice none 0 0,.slice none 0 0,.int .i64 a] 133))
 obtain⟨hb1,hb2,hf1⟩:=stmt_boxes w w1 a hw1
 have hz:w1.heap.size=w.heap.size+2:=by rw[hw1];simp
 have e1:(!(k==0))=false:=by simpa using hk0
 have hlk:∀(W:World) (b:Nat),KwM W b 7 kwTab→(Instr.lookup 212 (.map (some b)) (.string tx) true).run Tryz.prog W= .ok (.tuple #[.agg #[.int .u8 0,.nilFunc],.bool false]) W:=fun W b hW=>by
  have:=look_any (w:=w) hkk htx htl hW
  rw[if_pos hk0,e1]at this
  exact this
 have p10:=(hf1.cell (p:=⟨C.P,0,none⟩) ltP id).trans p0
 have t11:=(hf1.cell (p:=⟨C.TB,j*3+1,none⟩) ltT id).trans t1
 have hP1:C.P < w1.heap.size:=by omega
 have hT1:C.TB < w1.heap.size:=by omega
 have HLK:=hdq hlk
 have HKK:=hdq hkk
 have HK0:=hdq hk0
 have HRA:=hdq (fun(wk w9:World) (u0 u1:Value) (hfk:Fr NoT w1 wk) h9=>stmR_a (C:=C) (u0:=u0) (u1:=u1) (w9:=w9) hL h64 h hb1 hb2 hz hf1 hfk h9)
 have HRB:=hdq (fun(wa wk w9:World) (z0 z1 u0 u1:Value) (hfa:Fr NoT w1 wa) hba (hfk:Fr NoT wa wk) h9=>stmR_b (C:=C) (u0:=u0) (u1:=u1) (z0:=z0) (z1:=z1) (w9:=w9) hL h64 h hb1 hb2 hz hf1 hfa hba hfk h9)
 have HW1:=hdq hw1
 have HZ:=hdq hz
 have HK:=hdq hk
 have HL:=hdq hL
 have HF1:=hdq hf1
 clear hb hm0 hl ha htx hkk hk0 e1 hlk hw1 hb1 hb2 hz hf1 h hk hL htl h64
 go_enter Tryz.func96,Tryz.ntmps96
 go_wp2_with fail
 rw[show(w.alloc (.cells #[.int .u8 0,.string ⟨#[]⟩,.slice none 0 0,.slice none 0 0,.slice none 0 0,.slice none 0 0,.int .i64 0] 133)).alloc (.cells #[.int .u8 0,.string ⟨#[]⟩,.slice none 0 0,.slice none 0 0,.slice none 0 0,.slice none 0 0,.int .i64 a] 133)=w1 from HW1.out.symm]
 clear p0 t1 t2 p1 f0 f1 t0
 go_cut [4,5] (fun s4 s5 wx=>s5= .bool false∧∃gb,s4= .pointer (some ⟨gb,0,none⟩)∧Hid (StmR C w w.heap.size (w.heap.size+1) gb l d ⟨0,noB,.nil,.nil,.nil,.nil,a⟩ (.int .u8 0) .nilFunc wx∧w.heap.size+2≤gb))
 case first=>
  go_region_held2 (fun W'=>W'.cell? ⟨C.P,0,none⟩=some (.slice (some ⟨C.TB,j*3,none⟩) m cap)∧W'.cell? ⟨C.TB,j*3+1,none⟩=some (.string tx))
   (first
    |(refine⟨?_,?_⟩<;>with_reducible assumption)
    |(refine⟨(Fr.cell (T:=fun b=>b=gb) (w:=wk) ?_ hPk hPg).trans hpk,(Fr.cell (T:=fun b=>b=gb) (w:=wk) ?_ hTk hTg).trans htk⟩
      all_goals(subst hgb;repeat(first|exact Fr.refl _ _|refine Fr.alloc ?_ _|refine Fr.own ?_ _ _)))
    |(refine⟨(Fr.cell (T:=NoT) (w:=w1) ?_ hP1 id).trans p10,(Fr.cell (T:=NoT) (w:=w1) ?_ hT1 id).trans t11⟩
      all_goals(repeat(first|exact Fr.refl _ _|refine Fr.alloc ?_ _|refine Fr.drew ?_))))
   (first
    |(go_at_call 128
      refine(keywords_any w1.drew).mono ?_
      rintro _ wk ⟨kb,rfl,hkb,hkm,hfk⟩
      have hl1:=HLK.out _ _ hkm
      have hl2:=HLK.out _ _ (hkm.kept (World.grownBy_alloc wk (.cells #[.int .u8 0,.nilFunc] 210) none) (by simp))
      have hfk1:Fr NoT w1 wk:=(Fr.drew (Fr.refl _ _)).trans hfk
      have hpk:=(hfk1.cell (p:=⟨C.P,0,none⟩) hP1 id).trans p10
      have htk:=(hfk1.cell (p:=⟨C.TB,j*3+1,none⟩) hT1 id).trans t11
      have hPk:=ltq hP1 hfk1.size
      have hTk:=ltq hT1 hfk1.size
      obtain⟨gb,hgb⟩:=nmq wk.heap.size
      have hPg:¬C.P=gb:=by omega
      have hTg:¬C.TB=gb:=by omega
      have HE:=hdq (fun w9 h9=>HRA.out wk w9 (.int .u8 0) .nilFunc hfk1 h9)
      clear hkm hfk)
    |(go_at_call 128
      refine(keywords_any (w1.alloc (.cells #[.int .u8 0,.nilFunc] 210)).drew).mono ?_
      rintro _ wk ⟨kb,rfl,hkb,hkm,hfk⟩
      have hl1:=HLK.out _ _ hkm
      have hfa:Fr NoT w1 (w1.alloc (.cells #[.int .u8 0,.nilFunc] 210)).drew :=Fr.drew ((Fr.refl _ _).alloc _)
      have hba:Bk (w1.alloc (.cells #[.int .u8 0,.nilFunc] 210)).drew w1.heap.size 210 #[.int .u8 0,.nilFunc]:=Bk.new _ _ _
      have hfk1:Fr NoT w1 wk:=hfa.trans hfk
      have hpk:=(hfk1.cell (p:=⟨C.P,0,none⟩) hP1 id).trans p10
      have htk:=(hfk1.cell (p:=⟨C.TB,j*3+1,none⟩) hT1 id).trans t11
      have hPk:=ltq hP1 hfk1.size
      have hTk:=ltq hT1 hfk1.size
      obtain⟨gb,hgb⟩:=nmq w1.heap.size
      have hPg:¬C.P=gb:=by omega
      have hTg:¬C.TB=gb:=by omega
      have hbk:=hba.fr0 hfk
      have q0:=hbk.cell 0
      have q1:=hbk.cell 1
      have g0:=hbk.frozen 0
      have g1:=hbk.frozen 1
      have hgl:=hbk.lt
      simp only[getsL]at q0 q1
      have HE:=hdq (fun w9 h9=>HRB.out _ wk w9 (.int .u8 0) .nilFunc (.int .u8 0) .nilFunc hfa hba hfk h9)
      clear hkm hfk hba hfa hbk))
  all_goals
   have hgs:w.heap.size+2≤gb:=by rw[hgb];have:=hfk1.size;have:=HZ.out;omega
   rw[hgb]at hgs
   have HGS:=hdq hgs
   clear hgs
   go_wp2_with fail
   go_meet
   exact⟨rfl,_,rfl,hdq ⟨HE.out _ rfl,HGS.out⟩⟩
 case rest=>
  obtain⟨rfl,gb,rfl,HS1⟩:=hcut
  have hn:=name_yes C l d _ HK.out HS1.out.1.pa HNM.out
  unfold RetP vaV pP at hn
  rw[←HRT.out]at hn
  have HN:=hdq hn
  clear hn
  have HS:=hdq HS1.out.1
  have HGS:=hdq HS1.out.2
  clear HS1
  go_wp2_with fail
  refine HN.out.mono ?_
  rintro _ w10 ⟨rfl,hp,hf⟩
  obtain⟨nm,hnme⟩:=nmq (txt (hdT l))
  rw[←hnme]
  have HNME:=hdq hnme
  have hL:=HL.out
  have hb10:=HS.out.raw.fr hf (fun e=>by have e:w.heap.size+1=C.P:=e;omega)
  have hr10:=HS.out.res.fr hf (fun e=>by have e:w.heap.size=C.P:=e;omega)
  have s0:=hb10.cell 0
  have s1:=hb10.cell 1
  have z0:=hb10.frozen 0
  have z1:=hb10.frozen 1
  simp only[getsL]at s0 s1
  have HSX:=hdq (fun w11 h11=>SetX.start (w11:=w11) (nm:=nm) HL.out hb10 hr10 hp (HS.out.fr.any.trans hf) h11)
  have hs2:w.heap.size+2≤w10.heap.size:=by have h1:=HS.out.beg.lt;have h2:=hf.size;have h3:=HGS.out;omega
  have HS2:=hdq hs2
  clear hp hf hL hb10 hr10 hs2 hnme
  obtain⟨w11,hw11⟩:=nmq ((w10.setCell ⟨w.heap.size+1,0,none⟩ (.int .u8 2)).setCell ⟨w.heap.size+1,1,none⟩ (.string nm))
  have hx11:=HSX.out w11 hw11
  have hz11:w11.heap.size=w10.heap.size:=by rw[hw11];simp
  have hm:=HNB2.out
  ·have hi:=is1_no C [91] r d w11.heap.size _ (hx11.pa.alloc (.cells #[.string ⟨#[91]⟩] 9)) hm (by simp)
   unfold pP at hi
   have hsx:=hx11.alloc HL.out (.cells #[.string ⟨#[91]⟩] 9)
   obtain⟨WT,hwt⟩:=nmq (w11.alloc (.cells #[.string ⟨#[91]⟩] 9))
   rw[←hwt]at hsx
   have hszw:WT.heap.size=w10.heap.size+1:=by rw[hwt];simp[hz11]
   have HZW:=hdq (show w10.heap.size≤WT.heap.size by omega)
   rw[hz11,hw11]at hi
   rw[hw11]at hwt
   have HI2:=hdq hi
   have HSX2:=hdq hsx
   have HWT0:=hdq hwt
   have HSZ:=hdq hszw
   clear hw11 hx11 hz11 hi hm hsx hwt hszw
   go_wp2_with fail
   refine HI2.out.mono ?_
   rintro _ w12 ⟨q,hq,rfl,rfl⟩
   have hsx:=HSX2.out
   have hwt:=HWT0.out
   have hzt:=HSZ.out
   have ht:=take_yes C [61] r d WT.heap.size _ HK.out (hsx.pa.alloc (.cells #[.string ⟨#[61]⟩] 9)) (by decide) HEQ.out (by simp)
   unfold DoneP pP at ht
   have HSX:=hdq (hsx.alloc HL.out (.cells #[.string ⟨#[61]⟩] 9))
   rw[hzt,hwt]at ht
   have HWT:=hdq hwt
   have HT:=hdq ht
   clear hsx ht hzt hwt
   go_wp2_with fail
   refine HT.out.mono ?_
   intro e w4 hE
   rw[←HWT.out]at hE
   obtain⟨rfl,hp,hf⟩:=hE
   have hx4:=HSX.out.next HL.out hf hp
   have hxe:=fun W (hW:Fr NoT w4 W)=>expr_ok C r.tail d W x r3 HEX.out HK.out (hx4.pa.fr hW id id fun _ _=>id)
   unfold ExK at hxe
   have HXE:=hdq hxe
   have hsz4:w.heap.size+2≤w4.heap.size:=leq9 HS2.out (leq9 (by rw[World.size_alloc];exact leq9 HZW.out (Nat.le_succ _)) hf.size)
   have hsb4:w.heap.size+1 < w4.heap.size:=by omega
   have s2:=hx4.st.cell 2
   have z2:=hx4.st.frozen 2
   simp only[getsL]at s2
   have HX4:=hdq hx4
   clear hxe hp hf hx4
   go_wp2_with fail
   go_cut [60] (fun s60 wx=>∃(pl:Loc),Hid (SetY C w d ⟨2,nm,exsOf (([]:List Ex)++ [x]),.nil,.nil,.nil,a⟩ pl r3 wx))
   case first=>
    go_region_law
     (first
      |(refine at_value _ _ _ (by rfl) ?_
        go_simp
        go_at_call 130
        with_reducible refine(HXE.out w4.drew (Fr.drew (Fr.refl _ _))).mono ?_
        rintro _ w7 ⟨v7,rfl,hv,hp,hf⟩
        obtain⟨A,c,rfl⟩:=ExVS.parts hv
        unfold exV
        have hf7:Fr C.T w4 w7:=(Fr.drew (Fr.refl C.T w4)).trans hf
        have hx7:=HX4.out.next HL.out hf7 hp
        have s2':=hx7.st.cell 2
        have z2':=hx7.st.frozen 2
        have hsz7:=hf7.size
        have hsb7:w.heap.size+1 < w7.heap.size:=by omega
        simp only[getsL]at s2'
        have HV:=hdq hv
        have HP:=hdq hp
        have HF7:=hdq hf7
        have HX7:=hdq (hx7.alloc HL.out (.cells #[.int .u8 0,.string ⟨#[]⟩,.int .i64 0,.slice none 0 0,.int .i64 0] 68))
        have HNB:=hdq (Bk.new w7 68 zeroEx).news
        have HW:=hdq (show Fr NoT w7 (w7.alloc (.cells #[.int .u8 0,.string ⟨#[]⟩,.int .i64 0,.slice none 0 0,.int .i64 0] 68))from(Fr.refl _ _).alloc _)
        have hwx:=hx7.row.lt
        clear hv hp hf hf7 hx7
        dsimp only)
      |(refine at_value _ _ _ (by rfl) ?_
        go_simp
        go_at_call 130
        with_reducible refine(HXE.out (w4.alloc (.cells #[.int .u8 0,.string ⟨#[]⟩,.int .i64 0,.slice none 0 0,.int .i64 0] 68)).drew (Fr.drew ((Fr.refl _ _).alloc _))).mono ?_
        rintro _ w7 ⟨v7,rfl,hv,hp,hf⟩
        obtain⟨A,c,rfl⟩:=ExVS.parts hv
        unfold exV
        have hf0:Fr C.T w4 (w4.alloc (.cells zeroEx 68)).drew :=Fr.drew ((Fr.refl C.T w4).alloc _)
        have hf7:Fr C.T w4 w7:=hf0.trans hf
        have hx7:=HX4.out.next HL.out hf7 hp
        have s2':=hx7.st.cell 2
        have z2':=hx7.st.frozen 2
        have hsz7:=hf7.size
        have hsb7:w.heap.size+1 < w7.heap.size:=by omega
        simp only[getsL]at s2'
        have HV:=hdq (hv.low (L':=w4.heap.size) hf0.size)
        have HP:=hdq hp
        have HF7:=hdq hf7
        have HX7:=hdq hx7
        have HNB:=hdq (((show Bk (w4.alloc (.cells zeroEx 68)).drew w4.heap.size 68 zeroEx from Bk.new _ _ _).fr hf (fun e=>by have e:w4.heap.size=C.P:=e;have:=HL.out.1;omega))).news
        have HW:=hdq (Fr.refl NoT w7)
        have hwx:=hx7.row.lt
        clear hv hp hf hf7 hx7 hf0
        dsimp only)
      |(refine step_append_lies _ (by rfl) _ _ _ (by rfl) (w.heap.size+2) 68 i0 (.agg zeroEx) 5 64 Tryz.underlying35 HI.out.1 HI.out.2.1 HI.out.2.2.1 HI.out.2.2.2 rfl (by decide) (.slice none 0 0) 0 [] (by rfl) HX7.out.row ⟨w7.heap.size,0,none⟩ 1 1 zeroEx.toList (by rfl) (by rfl) HNB.out (by simp[zeroEx,Value.oneCell']) (by omega) (by decide) (by decide) (by rw[World.size_alloc];omega) (w7.heap.size+1) (World.size_alloc _ _) ?_
        intro gg cap w9 hown hgrow hsp hlt
        have hgg:=hown.lt gg rfl
        obtain⟨c0,c1,c2,c3,c4,cf⟩:=row_zero5 (n:=0) hown (by rfl)
        simp only[Nat.zero_mul,Nat.one_mul,Nat.zero_add,Nat.reduceAdd,Nat.reduceMul]at c0 c1 c2 c3 c4
        have cf0:=cf 0
        have cf1:=cf 1
        have cf2:=cf 2
        have cf3:=cf 3
        have cf4:=cf 4
        have hsb9:w9.cell? ⟨w.heap.size+1,2,none⟩=some (.slice none 0 0):=(hgrow.cell_far ⟨w.heap.size+1,2,none⟩ (by show w.heap.size+1 < _;rw[World.size_alloc];omega) (by simp[Value.ownBlock])).trans (HX7.out.st.cell 2)
        have hsf9:w9.frozen? ⟨w.heap.size+1,2,none⟩=false:=(hgrow.frozen_far ⟨w.heap.size+1,2,none⟩ (by show w.heap.size+1 < _;rw[World.size_alloc];omega) (by simp[Value.ownBlock])).trans (HX7.out.st.frozen 2)
        have hne1:¬w.heap.size+1=gg:=by omega
        have hne2:¬gg=w.heap.size+1:=by omega
        have HE:=hdq (fun w10 h10=>SetX.stepN (w10:=w10) (o0:=0) (o1:=1) (o2:=2) (o3:=3) (o4:=4) (m:=1) ⟨rfl,rfl,rfl,rfl,rfl,rfl⟩ HL.out (by unfold in8;omega) H64.out HX4.out HV.out HP.out HF7.out _ HW.out hown hgrow (hsp.imp id fun e=>by rw[World.size_alloc];exact e) h10)
        clear hown cf hgrow hsp)
      |(refine step_append_lies _ (by rfl) _ _ _ (by rfl) (w.heap.size+2) 68 i0 (.agg zeroEx) 5 64 Tryz.underlying35 HI.out.1 HI.out.2.1 HI.out.2.2.1 HI.out.2.2.2 rfl (by decide) (.slice none 0 0) 0 [] (by rfl) HX7.out.row ⟨w4.heap.size,0,none⟩ 1 1 zeroEx.toList (by rfl) (by rfl) HNB.out (by simp[zeroEx,Value.oneCell']) (by omega) (by decide) (by decide) (by omega) w7.heap.size rfl ?_
        intro gg cap w9 hown hgrow hsp hlt
        have hgg:=hown.lt gg rfl
        obtain⟨c0,c1,c2,c3,c4,cf⟩:=row_zero5 (n:=0) hown (by rfl)
        simp only[Nat.zero_mul,Nat.one_mul,Nat.zero_add,Nat.reduceAdd,Nat.reduceMul]at c0 c1 c2 c3 c4
        have cf0:=cf 0
        have cf1:=cf 1
        have cf2:=cf 2
        have cf3:=cf 3
        have cf4:=cf 4
        have hsb9:w9.cell? ⟨w.heap.size+1,2,none⟩=some (.slice none 0 0):=(hgrow.cell_far ⟨w.heap.size+1,2,none⟩ (by show w.heap.size+1 < _;omega) (by simp[Value.ownBlock])).trans (HX7.out.st.cell 2)
        have hsf9:w9.frozen? ⟨w.heap.size+1,2,none⟩=false:=(hgrow.frozen_far ⟨w.heap.size+1,2,none⟩ (by show w.heap.size+1 < _;omega) (by simp[Value.ownBlock])).trans (HX7.out.st.frozen 2)
        have hne1:¬w.heap.size+1=gg:=by omega
        have hne2:¬gg=w.heap.size+1:=by omega
        have HE:=hdq (fun w10 h10=>SetX.stepN (w10:=w10) (o0:=0) (o1:=1) (o2:=2) (o3:=3) (o4:=4) (m:=1) ⟨rfl,rfl,rfl,rfl,rfl,rfl⟩ HL.out (by unfold in8;omega) H64.out HX4.out HV.out HP.out HF7.out _ HW.out hown hgrow hsp h10)
        clear hown cf hgrow hsp))
    all_goals
     go_wp2_with fail
     go_meet
     first
      |exact⟨_,hdq (HE.out _ (.inl (by with_reducible rfl)))⟩
      |exact⟨_,hdq (HE.out _ (.inr (by with_reducible rfl)))⟩
   case rest=>
    obtain⟨pl,HY⟩:=hcut
    obtain⟨xs,hxs⟩:∃xs:St,xs=⟨2,nm,exsOf (([]:List Ex)++ [x]),.nil,.nil,.nil,a⟩:=⟨_,rfl⟩
    rw[←hxs]at HY
    have HXS:=hdq hxs
    have ht10:=take_yes C [59] r3 d wc.heap.size _ HK.out (HY.out.pa.alloc (.cells #[.string ⟨#[59]⟩] 9)) (by decide) HSE.out (by simp)
    unfold DoneP pP at ht10
    have HT10:=hdq ht10
    have HYA:=hdq (show Fr C.T wc (wc.alloc (.cells #[.string ⟨#[59]⟩] 9))from(Fr.refl _ _).alloc _)
    clear hxs ht10 s2 z2
    go_wp2_with fail
    refine HT10.out.mono ?_
    rintro _ w12 ⟨rfl,hp,hf⟩
    have hy:=HY.out.next HL.out (HYA.out.trans hf) hp
    have hb:=hy.st
    have hrb:=hy.res
    have b0:=hb.cell 0
    have b1:=hb.cell 1
    have b2:=hb.cell 2
    have b3:=hb.cell 3
    have b4:=hb.cell 4
    have b5:=hb.cell 5
    have b6:=hb.cell 6
    have o0:=hrb.cell 0
    have o1:=hrb.cell 1
    have o2:=hrb.cell 2
    have o3:=hrb.cell 3
    have o4:=hrb.cell 4
    have o5:=hrb.cell 5
    have o6:=hrb.cell 6
    have y0:=hrb.frozen 0
    have y1:=hrb.frozen 1
    have y2:=hrb.frozen 2
    have y3:=hrb.frozen 3
    have y4:=hrb.frozen 4
    have y5:=hrb.frozen 5
    have y6:=hrb.frozen 6
    simp only[stC,zeroSt,List.getElem?_toArray,List.getElem?_cons_succ,List.getElem?_cons_zero]at b0 b1 b2 b3 b4 b5 b6 o0 o1 o2 o3 o4 o5 o6
    have hlt2:=hrb.lt
    have HYY:=hdq hy
    clear hy hb hrb hp hf
    go_wp2_with fail
    refine bodyPost_ret (v:= .agg #[.int .u8 xs.k,.string xs.nm,.slice pl.A xs.args.len pl.c,.slice pl.B xs.cond.len pl.q,.slice pl.D xs.body.len pl.e,.slice pl.E xs.els.len pl.f,.int .i64 xs.at_]) (by simp[results,Tryz.results96,go_sem,o0,o1,o2,o3,o4,o5,o6,hlt2]) rfl ?_
    rw[show X=xs from by rw[HXX.out,HXS.out,HNME.out,HA.out];rfl]
    exact stmt_fin HL.out HYY.out.hs HYY.out.pa HYY.out.fr rfl
end Go.Proofs.YtphlnpaikpjakaaGreatDoor
