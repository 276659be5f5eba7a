/-
  ref10.Bare.
-/
import Derived.Test.YtmopichdofgndaaGreatDoorJnBa
import Derived.Test.YtmopichdofgndaaGreatDoorRwSeq
set_option linter.unusedVariables false
set_option linter.unusedSimpArgs false
namespace Go.Proofs.YtmopichdofgndaaGreatDoor
open Go.RowKit Go.Shelf

set_option maxRecDepth 100000 in
set_option maxHeartbeats 3200000 in
theorem bare_any (t:Tre) (w:World) (S:Nat→Prop) (Z:Prop) (Av Aa Ap Am:Option Addr) (cv ca cp cm:Nat) (hS:∀b,S b→b < w.heap.size) (hx:TrR w S Z t Av Aa Ap Am cv ca cp cm):
  Calls Tryz.prog 7 #[trV t Av Aa Ap Am cv ca cp cm] w (BaP t.bare w):=by
 unfold trV
 have hX:=fun(W:World) (hf:Fr NoT w W)=>hx.keep (hf.same fun b hb=>⟨hS b hb,id⟩)
 have hSW:=fun(W:World) (hf:Fr NoT w W) b (hb:S b)=>ltq (hS b hb) hf.size
 obtain⟨n1,hn1⟩:=nmq t.vars.length
 obtain⟨n2,hn2⟩:=nmq t.arrays.length
 obtain⟨n3,hn3⟩:=nmq t.procs.length
 obtain⟨n4,hn4⟩:=nmq t.main.len
 have h1:=fun(W:World) (hf:Fr NoT w W)=>bvars_any t.vars W S Z Av cv (hSW W hf) (hX W hf).vars
 have h4:=fun(W:World) (hf:Fr NoT w W)=>bstmts_any t.main W S Z Am cm (hSW W hf) (hX W hf).main
 rw[←hn1]at h1
 rw[←hn4]at h4
 have l2:n2≤9223372036854775807:=by rw[hn2];exact leq9 hx.arrays.1 hx.arrays.2.1.1
 have l3:n3≤9223372036854775807:=by rw[hn3];exact leq9 hx.procs.1 hx.procs.2.1.1
 rw[←hn1,←hn2,←hn3,←hn4]
 have HX:=hdq hx
 have HS:=hdq hS
 have HN2:=hdq hn2
 have HN3:=hdq hn3
 have H1:=hdq h1
 have H4:=hdq h4
 obtain⟨w1,hw1⟩:=nmq ((w.alloc (.cells #[.slice Av n1 cv,.slice Aa n2 ca,.slice Ap n3 cp,.slice Am n4 cm] 27)).alloc (.cells #[.slice none 0 0,.slice none 0 0,.slice none 0 0,.slice none 0 0] 27))
 have hfr1:Fr NoT w w1:=by rw[hw1];exact((Fr.refl _ _).alloc _).alloc _
 have k1:Bk w1 w.heap.size 27 #[.slice Av n1 cv,.slice Aa n2 ca,.slice Ap n3 cp,.slice Am n4 cm]:=by
  rw[hw1];exact(Bk.new _ _ _).fr0 ((Fr.refl _ _).alloc _)
 have k2:Bk w1 (w.heap.size+1) 27 #[.slice none 0 0,.slice none 0 0,.slice none 0 0,.slice none 0 0]:=by
  rw[hw1];exact Bk.new_at _ _ _ (by simp)
 have hz1:w1.heap.size=w.heap.size+1+1:=by rw[hw1];simp
 have HF1:=hdq hfr1
 have HK1:=hdq k1
 have HK2:=hdq k2
 have HW1:=hdq hw1
 have HZ1:=hdq hz1
 have y0:=k1.cell 0
 have y3:=k1.cell 3
 have hyl:=k1.lt
 simp only[getsL]at y0 y3
 clear hx hS hn1 hn2 hn3 hn4 hw1 hfr1 k1 k2 hX hSW h1 h4 hz1
 go_enter Tryz.func7,Tryz.ntmps7
 go_wp2_with fail
 rw[←HW1.out]
 go_cut [3] (fun s3 wx=>∃P A1 c1 A4 c4,s3= .pointer (some ⟨P,0,none⟩)∧Hid (Fr NoT w1 wx∧w1.heap.size≤P∧Bk wx P 27 #[.slice A1 t.vars.length c1,.slice none 0 0,.slice none 0 0,.slice A4 t.main.bare.len c4]∧BaQ w1.heap.size wx.heap.size t P A1 c1 A4 c4 wx))
 case first=>
  go_region_held2 (fun W'=>W'.cell? ⟨w.heap.size,0,none⟩=some (.slice Av n1 cv)∧W'.cell? ⟨w.heap.size,3,none⟩=some (.slice Am n4 cm))
   (first
    |(refine⟨?_,?_⟩<;>with_reducible assumption)
    |(refine⟨(Fr.cell (T:=NoT) (w:=w1) ?_ hyl id).trans y0,(Fr.cell (T:=NoT) (w:=w1) ?_ hyl id).trans y3⟩
      all_goals(repeat(first|exact Fr.refl _ _|exact hF17|exact hF15|refine Fr.alloc ?_ _|refine Fr.drew ?_ |refine Fr.high ?_ (by omega) _ _))))
   (first
    |(go_at_call 24
      refine(H1.out w1.drew (HF1.out.trans (Fr.refl NoT w1).drew)).mono ?_
      rintro _ w5 ⟨A1,c1,rfl,s1,hf5⟩
      have hF15:Fr NoT w1 w5:=(Fr.refl NoT w1).drew.trans hf5
      have hz5:=hF15.size
      have HS1:=hdq s1
      have HU5:Hid (w1.heap.size≤w1.drew.heap.size):=lrq _
      clear s1 hf5)
    |(go_at_call 24
      have hfa:Fr NoT w1 (w1.alloc (.cells #[.slice none 0 0,.slice none 0 0,.slice none 0 0,.slice none 0 0] 27)).drew :=((Fr.refl _ _).alloc _).drew
      refine(H1.out (w1.alloc (.cells #[.slice none 0 0,.slice none 0 0,.slice none 0 0,.slice none 0 0] 27)).drew (HF1.out.trans hfa)).mono ?_
      rintro _ w5 ⟨A1,c1,rfl,s1,hf5⟩
      have hF15:Fr NoT w1 w5:=hfa.trans hf5
      have hz5:=hF15.size
      have hz5':w1.heap.size < w5.heap.size:=by have:=hf5.size;simp at this;omega
      have HS1:=hdq s1
      have HPB5:=hdq ((show Bk (w1.alloc (.cells #[.slice none 0 0,.slice none 0 0,.slice none 0 0,.slice none 0 0] 27)).drew w1.heap.size 27 #[.slice none 0 0,.slice none 0 0,.slice none 0 0,.slice none 0 0]from Bk.new _ _ _).fr0 hf5)
      have HU5:Hid (w1.heap.size≤(w1.alloc (.cells #[.slice none 0 0,.slice none 0 0,.slice none 0 0,.slice none 0 0] 27)).drew.heap.size):=hfa.size
      have HU6:Hid (w1.heap.size < (w1.alloc (.cells #[.slice none 0 0,.slice none 0 0,.slice none 0 0,.slice none 0 0] 27)).drew.heap.size):=by show w1.heap.size < (w1.alloc _).heap.size;simp
      clear s1 hf5 hfa)
    |(go_at_call 25
      refine(H4.out w5 (HF1.out.trans hF15)).mono ?_
      rintro _ w7 ⟨A4,c4,rfl,s4,hF57⟩
      have HPB:=hdq (HPB5.out.fr0 hF57)
      have hF17:Fr NoT w1 w7:=hF15.trans hF57
      have hz7:=hF57.size
      have HS4:=hdq s4
      clear s4
      have hbp:=HPB.out
      have q0:=hbp.cell 0
      have q1:=hbp.cell 1
      have q2:=hbp.cell 2
      have q3:=hbp.cell 3
      have g0:=hbp.frozen 0
      have g1:=hbp.frozen 1
      have g2:=hbp.frozen 2
      have g3:=hbp.frozen 3
      have gl:=hbp.lt
      simp only[getsL]at q0 q1 q2 q3
      clear hbp)
    |(go_at_call 25
      refine(H4.out w5 (HF1.out.trans hF15)).mono ?_
      rintro _ w7 ⟨A4,c4,rfl,s4,hF57⟩
      have hF17:Fr NoT w1 w7:=hF15.trans hF57
      have hz7:=hF57.size
      have HS4:=hdq s4
      clear s4)
    |(go_at_call 25
      have hfa:Fr NoT w5 (w5.alloc (.cells #[.slice none 0 0,.slice none 0 0,.slice none 0 0,.slice none 0 0] 27)):=(Fr.refl _ _).alloc _
      refine(H4.out (w5.alloc (.cells #[.slice none 0 0,.slice none 0 0,.slice none 0 0,.slice none 0 0] 27)) ((HF1.out.trans hF15).trans hfa)).mono ?_
      rintro _ w7 ⟨A4,c4,rfl,s4,hf7⟩
      have hF57:Fr NoT w5 w7:=hfa.trans hf7
      have hF17:Fr NoT w1 w7:=hF15.trans hF57
      have hz7:w5.heap.size < w7.heap.size:=by have:=hf7.size;simp at this;omega
      have HS4:=hdq s4
      have HPB:=hdq ((show Bk (w5.alloc (.cells #[.slice none 0 0,.slice none 0 0,.slice none 0 0,.slice none 0 0] 27)) w5.heap.size 27 #[.slice none 0 0,.slice none 0 0,.slice none 0 0,.slice none 0 0]from Bk.new _ _ _).fr0 hf7)
      clear s4 hf7 hfa
      have hbp:=HPB.out
      have q0:=hbp.cell 0
      have q1:=hbp.cell 1
      have q2:=hbp.cell 2
      have q3:=hbp.cell 3
      have g0:=hbp.frozen 0
      have g1:=hbp.frozen 1
      have g2:=hbp.frozen 2
      have g3:=hbp.frozen 3
      have gl:=hbp.lt
      simp only[getsL]at q0 q1 q2 q3
      clear hbp))
  all_goals
   go_wp2_with fail
   go_meet
   first
    |(refine⟨w7.heap.size,A1,c1,A4,c4,rfl,hdq ⟨hF17.alloc _,hF17.size,Bk.new _ _ _,BaQ.of HS1.out HS4.out ((hF57.any).trans ((Fr.refl _ _).alloc _)) ((Fr.refl _ _).alloc _) ⟨HU5.out,hz5⟩ (.inr hz7) (.inr (lrq _))⟩⟩;done)
    |(refine⟨w5.heap.size,A1,c1,A4,c4,rfl,hdq ⟨Fr.high (Fr.high (Fr.high (Fr.high hF17 hz5 _ _) hz5 _ _) hz5 _ _) hz5 _ _,hz5,?_,BaQ.of HS1.out HS4.out ((hF57.any).trans (Fr.own (Fr.own (Fr.own (Fr.own (Fr.refl _ _) _ _) _ _) _ _) _ _)) (Fr.own (Fr.own (Fr.own (Fr.own (Fr.refl _ _) _ _) _ _) _ _) _ _) ⟨HU5.out,by simp;omega⟩ (.inr (lrq _)) (.inl (by simp))⟩⟩
      have hkk:=(((HPB.out.set_ 0 (.slice A1 t.vars.length c1)).set_ 1 (.slice none 0 0)).set_ 2 (.slice none 0 0)).set_ 3 (.slice A4 t.main.bare.len c4)
      simpa using hkk)
    |(refine⟨w1.heap.size,A1,c1,A4,c4,rfl,hdq ⟨Fr.high (Fr.high (Fr.high (Fr.high hF17 (lrq _) _ _) (lrq _) _ _) (lrq _) _ _) (lrq _) _ _,lrq _,?_,BaQ.of HS1.out HS4.out ((hF57.any).trans (Fr.own (Fr.own (Fr.own (Fr.own (Fr.refl _ _) _ _) _ _) _ _) _ _)) (Fr.own (Fr.own (Fr.own (Fr.own (Fr.refl _ _) _ _) _ _) _ _) _ _) ⟨HU5.out,hz5⟩ (.inl HU6.out) (.inl hz5')⟩⟩
      have hkk:=(((HPB.out.set_ 0 (.slice A1 t.vars.length c1)).set_ 1 (.slice none 0 0)).set_ 2 (.slice none 0 0)).set_ 3 (.slice A4 t.main.bare.len c4)
      simpa using hkk)
    |fail "close"
 case rest=>
  obtain⟨P,A1,c1,A4,c4,rfl,hq⟩:=hcut
  obtain⟨hfc,hP,hkP,hbq⟩:=hq.out
  have hPc:=hkP.lt
  obtain⟨iA,hia,hza0,hza1,hza2⟩:=info_parts infoAr
  obtain⟨iP,hip,hzp0,hzp1,hzp2⟩:=info_parts infoPc
  have HIA:=hdq (aiq hia (aiq hza0 (aiq hza1 hza2)))
  have HIP:=hdq (aiq hip (aiq hzp0 (aiq hzp1 hzp2)))
  have HP:=hdq hP
  have HPC:=hdq hPc
  have hBA:n2*32≤140737488355328:=by rw[HN2.out];exact HX.out.arrays.2.1.2
  have hBP:n3*72≤140737488355328:=by rw[HN3.out];exact HX.out.procs.2.1.2
  have HBA:=hdq hBA
  have HBP:=hdq hBP
  have HU0:=hdq (show TaX w1 wc t P A1 c1 A4 c4 (.slice none 0 0) wc [] [] 0 from⟨hfc,hkP,hbq,lrq _,World.ownsRow_nil _ _ _ _,rfl,rfl,rfl⟩)
  have y2:=(hfc.cell (p:=⟨w.heap.size,1,none⟩) hyl id).trans (HK1.out.cell 1)
  clear hq hfc hkP hbq hia hza0 hza1 hza2 hip hzp0 hzp1 hzp2 hBA hBP y0 y3 hP hPc y2
  go_wp2_with fail
  go_loopw [4] (fun i wr=>∃k:Nat,k≤n2∧i= .int .i64 k∧∃(v:Value) (acc:List Arr) (cs:List Value),Hid (TaX w1 wc t P A1 c1 A4 c4 v wr acc cs k)) (fun i _=>n2 - (intOf i).toNat)
  case atStart=>exact⟨0,Nat.zero_le _,rfl,_, [], [],HU0⟩
  case round=>
   clear HU0
   obtain⟨k,hk,rfl,v,acc,cs,hb⟩:=hrel
   have hk1:=HK1.out.fr0 hb.out.fr
   have y1:=hk1.cell 1
   have y2:=hk1.cell 2
   have yl:=hk1.lt
   have q1:=hb.out.bk.cell 1
   have g1:=hb.out.bk.frozen 1
   have pl:=hb.out.bk.lt
   simp only[getsL]at y1 y2 q1
   clear hk1
   by_cases hlt:k < n2
   ·obtain⟨⟨a0,a1,a2⟩,ar,hd⟩:=drop_head1 (show k < t.arrays.length from by rw[←HN2.out];exact hlt)
    obtain⟨b,o,rfl,hat⟩:=HX.out.arrays.2.2 (by rw[←HN2.out];omega)
    have hat1:=(ArR.keep ((HF1.out.trans hb.out.fr).same fun b hb=>⟨HS.out b hb,id⟩) hat).drop k
    rw[hd.1]at hat1
    obtain⟨⟨hbS,_,r0,r1,d0,d1,d2⟩,_⟩:=hat1
    have hbw:=HS.out _ hbS
    have hxr:b < wr.heap.size:=ltq hbw (HF1.out.trans hb.out.fr).size
    have hlt':(k:Int) < (n2:Int):=by omega
    have hge:(0:Int)≤(k:Int):=by omega
    have hz0:=HZ1.out
    have hP:=HP.out
    have hPc:=HPC.out
    have hnb:¬b=P:=by omega
    have hnB:¬w.heap.size=P:=by omega
    simp only at d0 d1
    have HD:=hdq hd
    have HR0:=hdq r0
    obtain⟨w8,hw8⟩:=nmq ((wr.alloc (.cells #[.string a0,.int .i64 a1,.int .i64 0] 66)).drew )
    have hf8:Fr NoT wr w8:=by rw[hw8];exact((Fr.refl _ _).alloc _).drew
    have hk8:Bk w8 wr.heap.size 66 ([.string a0,.int .i64 a1,.int .i64 0]:List Value).toArray :=by rw[hw8];exact Bk.new _ _ _
    have hz8:w8.heap.size=wr.heap.size+1:=by rw[hw8];exact World.size_alloc _ _
    have hrow8:=World.ownsRow.kept (w':=w8) hb.out.row (row:=none) ⟨hf8.os,hf8.tape,hf8.output,hf8.size,fun i hi _=>hf8.block i hi id⟩ (Classical.em _)
    have HROW8:=hdq hrow8
    have HK8:=hdq hk8
    have HF8:=hdq hf8
    have HW8:=hdq hw8
    have hbig:(acc.length+1)*32≤140737488355328:=by have:=HBA.out;have:=hb.out.len;omega
    have hacc:acc.length+1≤9223372036854775807:=by have:=hb.out.len;omega
    have hsz:=hb.out.sz
    have hbs:wc.heap.size≤w8.heap.size:=by omega
    have q8:=(hf8.cell (p:=⟨P,1,none⟩) pl id).trans q1
    have f8:=(hf8.frozen (p:=⟨P,1,none⟩) pl id).trans g1
    clear hd hat hbS r0 r1 hrow8 hk8 hw8 d2
    go_wp2_with fail
    refine wp_region_F (fun W'=>W'.cell? ⟨w.heap.size,1,none⟩=some (.slice (some ⟨b,o,none⟩) n2 ca)∧W'.cell? ⟨b,o+k*3,none⟩=some (.string a0)∧W'.cell? ⟨b,o+k*3+1,none⟩=some (.int .i64 a1)∧W'.cell? ⟨P,1,none⟩=some v) 17 (by kernel_rfl) ⟨y1,d0,d1,q1⟩ (fun hHeld=>?_)
    refine wpF_take 0 (v:=?_) rfl (by kernel_rfl) (by kernel_rfl) (by kernel_rfl) (by kernel_rfl) (fun _ _ _ h=>h) hHeld (by rfl) ?_ ?_
    rotate_left
    ·intro wz hSz
     (try dsimp only at hSz)
     go_simp
     try with_reducible rfl
    try simp only[putsL]
    refine wpF_take 1 (v:=?_) rfl (by kernel_rfl) (by kernel_rfl) (by kernel_rfl) (by kernel_rfl) (fun _ _ _ h=>h) hHeld (by rfl) ?_ ?_
    rotate_left
    ·intro wz hSz
     (try dsimp only at hSz)
     go_simp
     try with_reducible rfl
    try simp only[putsL]
    refine wpF_take 2 (v:=?_) rfl (by kernel_rfl) (by kernel_rfl) (by kernel_rfl) (by kernel_rfl) (fun _ _ _ h=>h) hHeld (by rfl) ?_ ?_
    rotate_left
    ·intro wz hSz
     (try dsimp only at hSz)
     go_simp
     try with_reducible rfl
    try simp only[putsL]
    refine wpF_take 3 (v:=?_) rfl (by kernel_rfl) (by kernel_rfl) (by kernel_rfl) (by kernel_rfl) (fun _ _ _ h=>h) hHeld (by rfl) ?_ ?_
    rotate_left
    ·intro wz hSz
     (try dsimp only at hSz)
     go_simp
     try with_reducible rfl
    try simp only[putsL]
    refine wpF_take 4 (v:=?_) rfl (by kernel_rfl) (by kernel_rfl) (by kernel_rfl) (by kernel_rfl) (fun _ _ _ h=>h) hHeld (by rfl) ?_ ?_
    rotate_left
    ·intro wz hSz
     (try dsimp only at hSz)
     go_simp
     try with_reducible rfl
    try simp only[putsL]
    refine wpF_take 5 (v:=?_) rfl (by kernel_rfl) (by kernel_rfl) (by kernel_rfl) (by kernel_rfl) (fun _ _ _ h=>h) hHeld (by rfl) ?_ ?_
    rotate_left
    ·intro wz hSz
     (try dsimp only at hSz)
     go_simp
     try with_reducible rfl
    try simp only[putsL]
    refine wpF_take 6 (v:=?_) rfl (by kernel_rfl) (by kernel_rfl) (by kernel_rfl) (by kernel_rfl) (fun _ _ _ h=>h) hHeld (by rfl) ?_ ?_
    rotate_left
    ·intro wz hSz
     (try dsimp only at hSz)
     go_simp
     try with_reducible rfl
    try simp only[putsL]
    refine wpF_take 7 (v:=?_) rfl (by kernel_rfl) (by kernel_rfl) (by kernel_rfl) (by kernel_rfl) (fun _ _ _ h=>h) hHeld (by rfl) ?_ ?_
    rotate_left
    ·intro wz hSz
     (try dsimp only at hSz)
     go_simp
     try with_reducible rfl
    try simp only[putsL]
    refine wpF_take 8 (v:=?_) rfl (by kernel_rfl) (by kernel_rfl) (by kernel_rfl) (by kernel_rfl) (fun _ _ _ h=>h) hHeld (by rfl) ?_ ?_
    rotate_left
    ·intro wz hSz
     (try dsimp only at hSz)
     go_simp
     try with_reducible rfl
    try simp only[putsL]
    refine wpF_take 9 (v:=?_) rfl (by kernel_rfl) (by kernel_rfl) (by kernel_rfl) (by kernel_rfl) (fun _ _ _ h=>h) hHeld (by rfl) ?_ ?_
    rotate_left
    ·intro wz hSz
     (try dsimp only at hSz)
     go_simp
     try with_reducible rfl
    try simp only[putsL]
    refine wpF_take 10 (v:=?_) rfl (by kernel_rfl) (by kernel_rfl) (by kernel_rfl) (by kernel_rfl) (fun _ _ _ h=>h) hHeld (by rfl) ?_ ?_
    rotate_left
    ·intro wz hSz
     (try dsimp only at hSz)
     go_simp
     try with_reducible rfl
    try simp only[putsL]
    refine wpF_take 11 (v:=?_) rfl (by kernel_rfl) (by kernel_rfl) (by kernel_rfl) (by kernel_rfl) (fun _ _ _ h=>h) hHeld (by rfl) ?_ ?_
    rotate_left
    ·intro wz hSz
     (try dsimp only at hSz)
     go_simp
     try with_reducible rfl
    try simp only[putsL]
    refine wpF_take 12 (v:=?_) rfl (by kernel_rfl) (by kernel_rfl) (by kernel_rfl) (by kernel_rfl) (fun _ _ _ h=>h) hHeld (by rfl) ?_ ?_
    rotate_left
    ·intro wz hSz
     (try dsimp only at hSz)
     go_simp
     try with_reducible rfl
    try simp only[putsL]
    refine wpF_take 13 (v:=?_) rfl (by kernel_rfl) (by kernel_rfl) (by kernel_rfl) (by kernel_rfl) (fun _ _ _ h=>h) hHeld (by rfl) ?_ ?_
    rotate_left
    ·intro wz hSz
     (try dsimp only at hSz)
     go_simp
     try with_reducible rfl
    try simp only[putsL]
    refine wpF_take 14 (v:=?_) rfl (by kernel_rfl) (by kernel_rfl) (by kernel_rfl) (by kernel_rfl) (fun _ _ _ h=>h) hHeld (by rfl) ?_ ?_
    rotate_left
    ·intro wz hSz
     (try dsimp only at hSz)
     go_simp
     try with_reducible rfl
    try simp only[putsL]
    refine wpF_next 15 rfl (by kernel_rfl) (fun K hK=>?_)
    go_simp
    rw[←HW8.out]
    refine hK.out _ _ ⟨(HF8.out.cell (p:=⟨w.heap.size,1,none⟩) yl id).trans y1,(HF8.out.cell (p:=⟨b,o+k*3,none⟩) hxr id).trans d0,(HF8.out.cell (p:=⟨b,o+k*3+1,none⟩) hxr id).trans d1,q8⟩ ?_
    clear hK K
    refine wpF_next 16 rfl (by kernel_rfl) (fun K hK=>?_)
    refine step_append_lies _ (by rfl) _ _ _ (by rfl) wc.heap.size 66 iA (.agg #[.string ⟨#[]⟩,.int .i64 0,.int .i64 0]) 3 32 Tryz.underlying23 HIA.out.1 HIA.out.2.1 HIA.out.2.2.1 HIA.out.2.2.2 rfl (by decide) v acc.length cs (by rfl) HROW8.out
     ⟨wr.heap.size,0,none⟩ 1 1 _ (by rfl) (by rfl) HK8.out.newsL (by simp[Value.oneCell']) (by omega) (by unfold maxLen;omega) hbig hbs _ rfl ?_
    intro gg cap w9 hown hgrow hsp hlt9
    have hf9:Fr (fun b=>wc.heap.size≤b) wr w9:=HF8.out.any.trans (Fr.grown hgrow fun g e _=>(HROW8.out.lt g e).1)
    have hne:some P≠v.ownBlock:=fun e=>by have:=(HROW8.out.lt P e.symm).1;omega
    have q9:=(hgrow.cell_far ⟨P,1,none⟩ (ltq pl HF8.out.size) hne).trans q8
    have f9:=(hgrow.frozen_far ⟨P,1,none⟩ (ltq pl HF8.out.size) hne).trans f8
    have p9:P < w9.heap.size:=by have:=hf9.size;omega
    have HN:=hdq (hb.out.step HP.out HPC.out HD.out HR0.out HW8.out hown hgrow hsp)
    refine hK.out _ _ ⟨(hf9.cell (p:=⟨w.heap.size,1,none⟩) yl (by show ¬wc.heap.size≤_;simp only;omega)).trans y1,(hf9.cell (p:=⟨b,o+k*3,none⟩) hxr (by show ¬wc.heap.size≤_;simp only;omega)).trans d0,(hf9.cell (p:=⟨b,o+k*3+1,none⟩) hxr (by show ¬wc.heap.size≤_;simp only;omega)).trans d1,q9⟩ ?_
    clear hK K hown hgrow hsp hne
    try simp only[putsL]
    refine wpF_last 17 rfl (by kernel_rfl) (by decide) (fun K hK=>?_)
    go_simp
    refine hK.out _ _ ?_
    clear hK K
    refine wpF_last 18 rfl (by kernel_rfl) (by decide) (fun K hK=>?_)
    go_simp
    refine hK.out _ _ ?_
    clear hK K
    refine wpF_done (by kernel_rfl) ?_
    go_wp2_with fail
    go_roundw
    case rel=>exact⟨k+1,by omega,by go_num,_,_,_,HN⟩
    case measure=>simp[intOf];omega
   ·have hlt':¬(k:Int) < (n2:Int):=by omega
    have hkm:k=n2:=by omega
    have hle:acc.length=t.arrays.length:=by rw[hb.out.len,hkm,HN2.out]
    have heq:acc=t.arrays.map Arr.bare:=by
     rw[←hb.out.eq,List.drop_eq_nil_of_le (by rw[←HN2.out];omega)];simp
    obtain⟨A2,c2,hv,hsl⟩:=RowR.slice oneA_keep (sz:=32) hb.out.row hb.out.rows (by rw[hb.out.len,hkm];exact HBA.out) (P:=fun b o=>ArR wr (New wc.heap.size wr) True (t.arrays.map Arr.bare) b o) fun g hg hr hc=>by
     rw[←heq];exact rowA (o:=0) hg hr fun j u hj=>by rw[Nat.zero_add];exact hc j u hj
    rw[hle]at hv hsl
    have HU0:=hdq (show TpX w1 wr t P A1 c1 A2 c2 A4 c4 (.slice none 0 0) wr [] [] 0 from
     ⟨hb.out.fr,by rw[←hv];exact hb.out.bk,hb.out.bq.more hb.out.sz (lrq _),by rw[List.length_map];exact hsl.imp fun _ _ h=>ArR.more (fun b hb=>⟨by have:=hb.1;have:=HP.out;have:=HPC.out;omega,hb.2,by have:=hb.1;have:=HPC.out;omega⟩) h,lrq _,World.ownsRow_nil _ _ _ _,rfl,rfl,rfl⟩)
    have HPD:=hdq (show P < wr.heap.size from ltq HPC.out hb.out.sz)
    clear hle heq hv hsl
    go_wp2_with fail
    clear y1 y2 yl q1 g1 pl
    obtain⟨wd,hwd⟩:∃wd:World,wd=wr:=⟨_,rfl⟩
    rw[←hwd]at HU0 HPD
    have hPD0:=HPD.out
    clear hb hPD0
    subst hwd
    go_loopw [5] (fun i wr=>∃k:Nat,k≤n3∧i= .int .i64 k∧∃(v:Value) (acc:List Prc) (cs:List Value),Hid (TpX w1 wd t P A1 c1 A2 c2 A4 c4 v wr acc cs k)) (fun i _=>n3 - (intOf i).toNat)
    case atStart=>exact⟨0,Nat.zero_le _,rfl,_, [], [],HU0⟩
    case round=>
     clear HU0
     obtain⟨k,hk,rfl,v,acc,cs,hb⟩:=hrel
     have hk1:=HK1.out.fr0 hb.out.fr
     have y2:=hk1.cell 2
     have yl:=hk1.lt
     have q2:=hb.out.bk.cell 2
     have pl:=hb.out.bk.lt
     simp only[getsL]at y2 q2
     clear hk1
     by_cases hlt:k < n3
     ·obtain⟨x,ar,hd⟩:=drop_head1 (show k < t.procs.length from by rw[←HN3.out];exact hlt)
      obtain⟨b,o,rfl,hat⟩:=HX.out.procs.2.2 (by rw[←HN3.out];omega)
      have hSr:∀b,S b→b < wr.heap.size:=fun b hb'=>ltq (HS.out b hb') (HF1.out.trans hb.out.fr).size
      have hat1:=(PrR.keep ((HF1.out.trans hb.out.fr).same fun b hb=>⟨HS.out b hb,id⟩) hat).drop k
      rw[hd.1]at hat1
      obtain⟨⟨hbS,_,r0,d0,d3⟩,⟨A5,q5,d1,s5⟩,⟨A6,q6,d2,s6⟩,_⟩:=hat1
      have hxr:b < wr.heap.size:=hSr _ hbS
      have hlt':(k:Int) < (n3:Int):=by omega
      have hge:(0:Int)≤(k:Int):=by omega
      obtain⟨l5,hl5⟩:=nmq x.params.length
      obtain⟨l6,hl6⟩:=nmq x.body.len
      obtain⟨xn,hxn⟩:=nmq x.nm
      obtain⟨xa,hxa⟩:=nmq x.at_
      rw[←hl5]at d1
      rw[←hl6]at d2
      rw[←hxn]at d0
      rw[←hxa]at d3
      obtain⟨wq,hwq⟩:∃y:World,y=wr:=⟨_,rfl⟩
      obtain⟨w4,hw4⟩:=nmq (wr.alloc (.cells #[.string xn,.slice A5 l5 q5,.slice A6 l6 q6,.int .i64 xa] 68))
      have hf4:Fr NoT wr w4:=by rw[hw4];exact(Fr.refl _ _).alloc _
      have hk6:Bk w4 wr.heap.size 68 #[.string xn,.slice A5 l5 q5,.slice A6 l6 q6,.int .i64 xa]:=by rw[hw4];exact Bk.new _ _ _
      have g5:=fun(W:World) (hf:Fr NoT wr W)=>bvars_any x.params W S Z A5 q5 (fun b h=>ltq (hSr b h) hf.size) (s5.imp fun _ _ hx=>VaR.keep (hf.same fun b h=>⟨hSr b h,id⟩) hx)
      have g6:=fun(W:World) (hf:Fr NoT wr W)=>bstmts_any x.body W S Z A6 q6 (fun b h=>ltq (hSr b h) hf.size) (s6.imp fun _ _ hx=>StR.keep (hf.same fun b h=>⟨hSr b h,id⟩) hx)
      rw[←hl5]at g5
      rw[←hl6]at g6
      have G5:=hdq g5
      have G6:=hdq g6
      have HD:=hdq hd
      have HXN:=hdq hxn
      have HF4:=hdq hf4
      have HW4:=hdq hw4
      have x0:=hk6.cell 0
      have x1:=hk6.cell 1
      have x2:=hk6.cell 2
      have xl:=hk6.lt
      simp only[getsL]at x0 x1 x2
      have q4:=(hf4.cell (p:=⟨P,2,none⟩) pl id).trans q2
      have pl4:=ltq pl hf4.size
      clear hd hat hbS r0 s5 s6 hl5 hl6 hxn hxa hf4 hk6 hw4 g5 g6 hSr
      go_wp2_with fail
      rw[←HW4.out]
      clear d0 d1 d2 d3 hxr y2 yl
      refine wp_region_F (fun W'=>W'.cell? ⟨wr.heap.size,0,none⟩=some (.string xn)∧W'.cell? ⟨wr.heap.size,1,none⟩=some (.slice A5 l5 q5)∧W'.cell? ⟨wr.heap.size,2,none⟩=some (.slice A6 l6 q6)∧W'.cell? ⟨P,2,none⟩=some v) 13 (by kernel_rfl) ⟨x0,x1,x2,q4⟩ (fun hHeld=>?_)
      refine wpF_take 0 (v:=?_) rfl (by kernel_rfl) (by kernel_rfl) (by kernel_rfl) (by kernel_rfl) (fun _ _ _ h=>h) hHeld (by rfl) ?_ ?_
      rotate_left
      ·intro wz hSz
       (try dsimp only at hSz)
       go_simp
       try with_reducible rfl
      try simp only[putsL]
      refine wpF_take 1 (v:=?_) rfl (by kernel_rfl) (by kernel_rfl) (by kernel_rfl) (by kernel_rfl) (fun _ _ _ h=>h) hHeld (by rfl) ?_ ?_
      rotate_left
      ·intro wz hSz
       (try dsimp only at hSz)
       go_simp
       try with_reducible rfl
      try simp only[putsL]
      refine wpF_take 2 (v:=?_) rfl (by kernel_rfl) (by kernel_rfl) (by kernel_rfl) (by kernel_rfl) (fun _ _ _ h=>h) hHeld (by rfl) ?_ ?_
      rotate_left
      ·intro wz hSz
       (try dsimp only at hSz)
       go_simp
       try with_reducible rfl
      try simp only[putsL]
      refine wpF_take 3 (v:=?_) rfl (by kernel_rfl) (by kernel_rfl) (by kernel_rfl) (by kernel_rfl) (fun _ _ _ h=>h) hHeld (by rfl) ?_ ?_
      rotate_left
      ·intro wz hSz
       (try dsimp only at hSz)
       go_simp
       try with_reducible rfl
      try simp only[putsL]
      refine wpF_take 4 (v:=?_) rfl (by kernel_rfl) (by kernel_rfl) (by kernel_rfl) (by kernel_rfl) (fun _ _ _ h=>h) hHeld (by rfl) ?_ ?_
      rotate_left
      ·intro wz hSz
       (try dsimp only at hSz)
       go_simp
       try with_reducible rfl
      try simp only[putsL]
      refine wpF_take 5 (v:=?_) rfl (by kernel_rfl) (by kernel_rfl) (by kernel_rfl) (by kernel_rfl) (fun _ _ _ h=>h) hHeld (by rfl) ?_ ?_
      rotate_left
      ·intro wz hSz
       (try dsimp only at hSz)
       go_simp
       try with_reducible rfl
      try simp only[putsL]
      refine wpF_take 7 (v:=?_) rfl (by kernel_rfl) (by kernel_rfl) (by kernel_rfl) (by kernel_rfl) (fun _ _ _ h=>h) hHeld (by rfl) ?_ ?_
      rotate_left
      ·intro wz hSz
       (try dsimp only at hSz)
       go_simp
       try with_reducible rfl
      try simp only[putsL]
      refine wpF_take 8 (v:=?_) rfl (by kernel_rfl) (by kernel_rfl) (by kernel_rfl) (by kernel_rfl) (fun _ _ _ h=>h) hHeld (by rfl) ?_ ?_
      rotate_left
      ·intro wz hSz
       (try dsimp only at hSz)
       go_simp
       try with_reducible rfl
      try simp only[putsL]
      refine wpF_next 6 rfl (by kernel_rfl) (fun K hK=>?_)
      go_simp
      go_at_call 24
      refine(G5.out w4.drew (HF4.out.drew)).mono ?_
      rintro _ w5 ⟨B1,e1,rfl,t1,hf5⟩
      have hF45:Fr NoT w4 w5:=(Fr.refl NoT w4).drew.trans hf5
      try dsimp only
      refine hK.out _ _ ⟨(hF45.cell (p:=⟨wr.heap.size,0,none⟩) xl id).trans x0,(hF45.cell (p:=⟨wr.heap.size,1,none⟩) xl id).trans x1,(hF45.cell (p:=⟨wr.heap.size,2,none⟩) xl id).trans x2,(hF45.cell (p:=⟨P,2,none⟩) pl4 id).trans q4⟩ ?_
      clear hK K
      try simp only[putsL]
      refine wpF_next 9 rfl (by kernel_rfl) (fun K hK=>?_)
      go_simp
      go_at_call 25
      refine(G6.out w5 (HF4.out.trans hF45)).mono ?_
      rintro _ w7 ⟨B2,e2,rfl,t2,hf7⟩
      have hF57:=hf7
      have hF47:Fr NoT w4 w7:=hF45.trans hf7
      have hF17:Fr NoT wr w7:=HF4.out.trans hF47
      have q7:=(hF47.cell (p:=⟨P,2,none⟩) pl4 id).trans q4
      have pl7:P < w7.heap.size:=ltq pl4 hF47.size
      try dsimp only
      refine hK.out _ _ ⟨(hF47.cell (p:=⟨wr.heap.size,0,none⟩) xl id).trans x0,(hF47.cell (p:=⟨wr.heap.size,1,none⟩) xl id).trans x1,(hF47.cell (p:=⟨wr.heap.size,2,none⟩) xl id).trans x2,q7⟩ (?_)
      clear hK K
      try simp only[putsL]
      have hHeld:=(show w7.cell? ⟨wr.heap.size,0,none⟩=some (.string xn)∧w7.cell? ⟨wr.heap.size,1,none⟩=some (.slice A5 l5 q5)∧w7.cell? ⟨wr.heap.size,2,none⟩=some (.slice A6 l6 q6)∧w7.cell? ⟨P,2,none⟩=some v from⟨(hF47.cell (p:=⟨wr.heap.size,0,none⟩) xl id).trans x0,(hF47.cell (p:=⟨wr.heap.size,1,none⟩) xl id).trans x1,(hF47.cell (p:=⟨wr.heap.size,2,none⟩) xl id).trans x2,q7⟩)
      obtain⟨m5,hm5⟩:=nmq x.params.length
      obtain⟨m6,hm6⟩:=nmq x.body.bare.len
      rw[←hm5,←hm6]
      have HM5:=hdq hm5
      have HM6:=hdq hm6
      clear hm5 hm6
      refine wpF_take 10 (v:=?_) rfl (by kernel_rfl) (by kernel_rfl) (by kernel_rfl) (by kernel_rfl) (fun _ _ _ h=>h) hHeld (by rfl) ?_ ?_
      rotate_left
      ·intro wz hSz
       (try dsimp only at hSz)
       go_simp
       try with_reducible rfl
      try simp only[putsL]
      obtain⟨w8,hw8⟩:=nmq (w7.alloc (.cells #[.string xn,.slice B1 m5 e1,.slice B2 m6 e2,.int .i64 0] 68))
      have hf78:Fr NoT w7 w8:=by rw[hw8];exact(Fr.refl _ _).alloc _
      have hF18:Fr NoT wr w8:=hF17.trans hf78
      have hk8:Bk w8 w7.heap.size 68 ([.string xn,.slice B1 m5 e1,.slice B2 m6 e2,.int .i64 0]:List Value).toArray :=by rw[hw8];exact Bk.new _ _ _
      have hrow8:=World.ownsRow.kept (w':=w8) hb.out.row (row:=none) ⟨hF18.os,hF18.tape,hF18.output,hF18.size,fun i hi _=>hF18.block i hi id⟩ (Classical.em _)
      have HROW8:=hdq hrow8
      have HK8:=hdq hk8
      have HT1:=hdq (show SlR (fun b o=>VaR w8 (fun b=>wr.heap.size≤b∧b < w8.heap.size) True (x.params.map Va.bare) b o) (x.params.map Va.bare).length 24 B1 e1 from t1.imp fun _ _ h=>VaR.more (fun b hb=>⟨leq9 HF4.out.drew.size hb.1,ltq hb.2 (hF57.trans hf78).size⟩) (VaR.keep ((hF57.trans hf78).same fun b hb=>⟨hb.2,id⟩) h))
      have HT2:=hdq (show SlR (fun b o=>StR w8 (fun b=>wr.heap.size≤b∧b < w8.heap.size) True x.body.bare b o) x.body.bare.len 128 B2 e2 from t2.imp fun _ _ h=>StR.more (fun b hb=>⟨leq9 (HF4.out.trans hF45).size hb.1,ltq hb.2 hf78.size⟩) (StR.keep (hf78.same fun b hb=>⟨hb.2,id⟩) h))
      have HF18:=hdq hF18
      have hbig:(acc.length+1)*72≤140737488355328:=by have:=HBP.out;have:=hb.out.len;omega
      have hacc:acc.length+1≤9223372036854775807:=by have:=hb.out.len;omega
      have hbs:wd.heap.size≤w8.heap.size:=by have:=hb.out.sz;have:=hF18.size;omega
      have q8:=(hf78.cell (p:=⟨P,2,none⟩) pl7 id).trans q7
      have f8:w8.frozen? ⟨P,2,none⟩=false:=(hF18.frozen (p:=⟨P,2,none⟩) pl id).trans (hb.out.bk.frozen 2)
      have pl8:P < w8.heap.size:=ltq pl7 hf78.size
      have HW8:=hdq hw8
      have hS8:=(show w8.cell? ⟨wr.heap.size,0,none⟩=some (.string xn)∧w8.cell? ⟨wr.heap.size,1,none⟩=some (.slice A5 l5 q5)∧w8.cell? ⟨wr.heap.size,2,none⟩=some (.slice A6 l6 q6)∧w8.cell? ⟨P,2,none⟩=some v from⟨((hF47.trans hf78).cell (p:=⟨wr.heap.size,0,none⟩) xl id).trans x0,((hF47.trans hf78).cell (p:=⟨wr.heap.size,1,none⟩) xl id).trans x1,((hF47.trans hf78).cell (p:=⟨wr.heap.size,2,none⟩) xl id).trans x2,q8⟩)
      have xl8:wr.heap.size < w8.heap.size:=ltq xl (hF47.trans hf78).size
      clear t1 t2 hrow8 hk8 hw8 hHeld
      refine wpF_next 11 rfl (by kernel_rfl) (fun K hK=>?_)
      go_simp
      rw[←HW8.out]
      refine hK.out _ _ hS8 ?_
      clear hK K
      try simp only[putsL]
      refine wpF_next 12 rfl (by kernel_rfl) (fun K hK=>?_)
      refine step_append_lies _ (by rfl) _ _ _ (by rfl) wd.heap.size 68 iP (.agg #[.string ⟨#[]⟩,.slice none 0 0,.slice none 0 0,.int .i64 0]) 4 72 Tryz.underlying24 HIP.out.1 HIP.out.2.1 HIP.out.2.2.1 HIP.out.2.2.2 rfl (by decide) v acc.length cs (by rfl) HROW8.out
       ⟨w7.heap.size,0,none⟩ 1 1 _ (by rfl) (by rfl) HK8.out.newsL (by simp[Value.oneCell']) (by omega) (by unfold maxLen;omega) hbig hbs _ rfl ?_
      intro gg cap w9 hown hgrow hsp hlt9
      have hf9:Fr (fun b=>v.ownBlock=some b) w8 w9:=Fr.grown hgrow fun g e _=>e
      have hne:some P≠v.ownBlock:=fun e=>by have:=(HROW8.out.lt P e.symm).1;have:=HPD.out;omega
      have hn6:¬v.ownBlock=some wr.heap.size:=fun e=>by have:=(hb.out.row.lt _ e).2;omega
      have q9:=(hgrow.cell_far ⟨P,2,none⟩ pl8 hne).trans q8
      have f9:=(hgrow.frozen_far ⟨P,2,none⟩ pl8 hne).trans f8
      have p9:P < w9.heap.size:=by have:=hf9.size;omega
      have HN:=hdq (hb.out.step HP.out HPD.out HD.out HF18.out (zs:= [.string xn,.slice B1 m5 e1,.slice B2 m6 e2,.int .i64 0]) (by rw[HXN.out,HM5.out,HM6.out,List.length_map]) HT1.out HT2.out hown hgrow hsp)
      refine hK.out _ _ ⟨(hf9.cell (p:=⟨wr.heap.size,0,none⟩) xl8 hn6).trans hS8.1,(hf9.cell (p:=⟨wr.heap.size,1,none⟩) xl8 hn6).trans hS8.2.1,(hf9.cell (p:=⟨wr.heap.size,2,none⟩) xl8 hn6).trans hS8.2.2.1,q9⟩ ?_
      clear hK K hown hgrow hsp hne hn6 hS8
      try simp only[putsL]
      refine wpF_last 13 rfl (by kernel_rfl) (by decide) (fun K hK=>?_)
      go_simp
      refine hK.out _ _ ?_
      clear hK K
      refine wpF_last 14 rfl (by kernel_rfl) (by decide) (fun K hK=>?_)
      go_simp
      refine hK.out _ _ ?_
      clear hK K
      refine wpF_done (by kernel_rfl) ?_
      go_wp2_with fail
      go_roundw
      case rel=>exact⟨k+1,by omega,by go_num,_,_,_,HN⟩
      case measure=>simp[intOf];omega
     ·have hlt':¬(k:Int) < (n3:Int):=by omega
      have hkm:k=n3:=by omega
      have hle:acc.length=t.procs.length:=by rw[hb.out.len,hkm,HN3.out]
      have heq:acc=t.procs.map Prc.bare:=by
       rw[←hb.out.eq,List.drop_eq_nil_of_le (by rw[←HN3.out];omega)];simp
      obtain⟨A3,c3,hv,hsl⟩:=RowR.slice oneP_keep (sz:=72) hb.out.row hb.out.rows (by rw[hb.out.len,hkm];exact HBP.out) (P:=fun b o=>PrR wr (New wd.heap.size wr) True (t.procs.map Prc.bare) b o) fun g hg hr hc=>by
       rw[←heq];exact rowP (o:=0) hg hr fun j u hj=>by rw[Nat.zero_add];exact hc j u hj
      rw[hle]at hv hsl
      have hkP:=hb.out.bk
      rw[hv]at hkP
      have hkR:=HK2.out.fr0 hb.out.fr
      obtain⟨wf,hwf⟩:=nmq ((((wr.setCell ⟨w.heap.size+1,0,none⟩ (.slice A1 t.vars.length c1)).setCell ⟨w.heap.size+1,1,none⟩ (.slice A2 t.arrays.length c2)).setCell ⟨w.heap.size+1,2,none⟩ (.slice A3 t.procs.length c3)).setCell ⟨w.heap.size+1,3,none⟩ (.slice A4 t.main.bare.len c4))
      have hfR:Fr (fun b=>b=w.heap.size+1) wr wf:=by rw[hwf];exact Fr.own (Fr.own (Fr.own (Fr.own (Fr.refl _ _) _ _) _ _) _ _) _ _
      have hkF:Bk wf (w.heap.size+1) 27 #[.slice A1 t.vars.length c1,.slice A2 t.arrays.length c2,.slice A3 t.procs.length c3,.slice A4 t.main.bare.len c4]:=by
       have:=(((hkR.set_ 0 (.slice A1 t.vars.length c1)).set_ 1 (.slice A2 t.arrays.length c2)).set_ 2 (.slice A3 t.procs.length c3)).set_ 3 (.slice A4 t.main.bare.len c4)
       rw[hwf]
       simpa using this
      have hz1:=HZ1.out
      have hsR:SameS (fun b=>w1.heap.size≤b∧b < wr.heap.size) wr wf:=hfR.same fun b hb=>⟨hb.2,by have:=hb.1;intro e;have e:b=w.heap.size+1:=e;omega⟩
      have hup:=hb.out.bq.up
      have hwin:∀b,NewP w1.heap.size wd.heap.size P b→(w1.heap.size≤b∧b < wr.heap.size):=fun b hb=>⟨hb.1,by have:=hb.2.1;omega⟩
      have hmor:∀b,(w1.heap.size≤b∧b < wr.heap.size)→New w.heap.size wf b:=fun b hb=>⟨by have:=hb.1;omega,ltq hb.2 hfR.size⟩
      have hsz:=hb.out.sz
      have hd1:w1.heap.size≤wd.heap.size:=by have:=HP.out;have:=HPD.out;omega
      have HTR:=hdq (show TrR wf (New w.heap.size wf) True t.bare A1 A2 A3 A4 c1 c2 c3 c4 from
       ⟨hb.out.bq.vars.imp fun _ _ h=>VaR.more hmor (VaR.keep hsR (VaR.more hwin h)),hb.out.ba.imp fun _ _ h=>ArR.more hmor (ArR.keep hsR (ArR.more hwin h)),
        by rw[show t.bare.procs.length=t.procs.length from by simp[Tre.bare]];exact hsl.imp fun _ _ h=>PrR.more hmor (PrR.keep hsR (PrR.more (fun b hb=>⟨leq9 hd1 hb.1,hb.2⟩) h)),hb.out.bq.main.imp fun _ _ h=>StR.more hmor (StR.keep hsR (StR.more hwin h))⟩)
      have HFF:=hdq (show Fr NoT w wf from by rw[hwf];exact Fr.high (Fr.high (Fr.high (Fr.high (HF1.out.trans hb.out.fr) (by omega) _ _) (by omega) _ _) (by omega) _ _) (by omega) _ _)
      have p0:=hkP.cell 0
      have p1:=hkP.cell 1
      have p2:=hkP.cell 2
      have p3:=hkP.cell 3
      have z0:=hkR.cell 0
      have z1:=hkR.cell 1
      have z2:=hkR.cell 2
      have z3:=hkR.cell 3
      have f0:=hkR.frozen 0
      have f1:=hkR.frozen 1
      have f2:=hkR.frozen 2
      have f3:=hkR.frozen 3
      have zl:=hkR.lt
      simp only[getsL]at p0 p1 p2 p3 z0 z1 z2 z3
      have HKF:=hdq hkF
      have HWF:=hdq hwf
      clear hle heq hv hsl hkP hkR hwf hfR hkF hz1 hsR hup hwin hmor hsz hd1 q2
      go_wp2_with fail
      rw[←HWF.out]
      refine bodyPost_ret (results_cell_row (p:=2) (ty:=27) rfl _ _ (w.heap.size+1) 27 _ (0,0) _ rfl HKF.out Tryz.underlying27 rfl infoTr) rfl ⟨A1,A2,A3,A4,c1,c2,c3,c4,?_,HTR.out,HFF.out⟩
      unfold trV
      simp[Tre.bare]
end Go.Proofs.YtmopichdofgndaaGreatDoor
