/-
  big: the making of a call. Printed by wip/gen_in/reg.py.
-/
import Derived.Test.YtfomomaomggpbaaGreatDoorJgBgSeq
set_option linter.unusedVariables false
set_option linter.unusedSimpArgs false
set_option maxHeartbeats 3200000
set_option maxRecDepth 100000
namespace Go.Proofs.YtfomomaomggpbaaGreatDoor
open Go.RowKit Go.Shelf

def ClS (C:BgC) (p q:Nat) (nm:ByteArray) (v:Value) (W:World):Prop:=W.cell? ⟨p,0,none⟩=some (.pointer (some ⟨C.P,0,none⟩))∧W.cell? ⟨C.P,2,none⟩=some (.map (some C.MP))∧W.cell? ⟨q,1,none⟩=some (.string nm)∧(Instr.lookup 71 (.map (some C.MP)) (.string nm) false).run Tryz.prog W= .ok v W
theorem call_make (C:BgC) (ps:List (List UInt8)) (ho:C.Ok) (k:Int) (nm:ByteArray) (args:Exs) (at_:Int) (hX:∀i k0 n0 m0 a0 t0 r0,Exs.drop i args= .cons k0 n0 m0 a0 t0 r0→ExpC C ps k0 n0 m0 a0 t0) (D:DoR) (W:World) (S:Nat→Prop) (Z:Prop) (A2 A3 A4 A5:Option Addr) (c2 l3 c3 l4 c4 l5 c5:Nat) (hT:C.T≤W.heap.size) (hpg:PgAt C W) (hS:∀x,S x→x < C.B) (hx:SlR (fun b o=>ExR W S Z args b o) args.len 64 A2 c2)
  {Ap:Option Addr} {np cp:Nat} {vb:Value} (hlk:∀w',Fr NoT W w'→(Instr.lookup 71 (.map (some C.MP)) (.string nm) false).run Tryz.prog w'= .ok (.agg #[.slice Ap np cp,vb]) w') (hvb:∃gg cps,vb= .func (.func gg) #[] cps)
  (hD:∀w' x A c vs,Fr NoT W w'→Bx W.heap.size w'.heap.size w' W.heap.size 69 #[.pointer (some ⟨C.P,0,none⟩)]→Bx W.heap.size w'.heap.size w' (W.heap.size+1) 51 (bgStC k nm A2 A3 A4 A5 args.len c2 l3 c3 l4 c4 l5 c5 at_)→Bx W.heap.size w'.heap.size w' (W.heap.size+2) 83 #[.slice Ap np cp,vb]→Bx W.heap.size w'.heap.size w' x 276 #[.slice A args.len c]→RowF W.heap.size w'.heap.size w' A c vs→vs.length=args.len→
   (∀(i:Nat) u X,vs[i]?=some u→(xsV C.n ps args)[i]?=some X→ValP C ps u X W.heap.size w'.heap.size w')→DoP C ps (.func (.func 183) #[] #[.pointer (some ⟨W.heap.size,0,none⟩),.pointer (some ⟨W.heap.size+1,0,none⟩),.pointer (some ⟨W.heap.size+2,0,none⟩),.pointer (some ⟨x,0,none⟩)]) D W.heap.size w'.heap.size w'):
  Calls Tryz.prog 111 #[.pointer (some ⟨C.P,0,none⟩),.agg (bgStC k nm A2 A3 A4 A5 args.len c2 l3 c3 l4 c4 l5 c5 at_)] W (MkD C ps D W):=by
 obtain⟨gB,capsB,rfl⟩:=hvb
 obtain⟨i1,hi1,hz1,hs1,hb1⟩:=info_parts infoVal9
 obtain⟨n,hn⟩:=nmq args.len
 have hnm:n*64≤140737488355328:=by rw[hn];exact hx.2.1.2
 have hBW:C.B≤W.heap.size:=by have h1:=ho.br;have h2:=ho.rT;omega
 have hpl:∀w',Fr NoT W w'→PgAt C w':=fun w' hf=>hpg.later ho (Later.of0 (lo:=0) (hi:=0) hf (Nat.zero_le _) hT)
 have hsm:∀w',Fr NoT W w'→SameS S W w':=fun w' hf=>hf.same fun b hb=>⟨ltq (hS b hb) hBW,id⟩
 obtain⟨w0,hw0⟩:=nmq (stW W C k nm A2 A3 A4 A5 n c2 l3 c3 l4 c4 l5 c5 at_)
 have hf0:Fr NoT W w0:=by rw[hw0];exact((Fr.refl _ _).alloc _).alloc _
 have hkp0:Bk w0 W.heap.size 69 #[.pointer (some ⟨C.P,0,none⟩)]:=by rw[hw0];exact(Bk.new _ _ _).alloc _
 have hkq0:Bk w0 (W.heap.size+1) 51 (bgStC k nm A2 A3 A4 A5 n c2 l3 c3 l4 c4 l5 c5 at_):=by rw[hw0];exact Bk.new_at _ _ _ (by simp)
 have hsz0:w0.heap.size=W.heap.size+2:=by rw[hw0];simp
 obtain⟨w2,hw2⟩:=nmq ((w0.alloc (.cells #[.slice Ap np cp,.func (.func gB) #[] capsB] 83)).drew )
 have hf02:Fr NoT w0 w2:=by
  rw[hw2]
  exact((Fr.refl NoT w0).alloc _).drew
 have hf2:=hf0.trans hf02
 have hkp:=hkp0.fr0 hf02
 have hkq:=hkq0.fr0 hf02
 have hk5:Bk w2 (W.heap.size+2) 83 #[.slice Ap np cp,.func (.func gB) #[] capsB]:=by
  rw[hw2]
  exact Bk.new_at w0 _ _ hsz0
 have hsz2:w2.heap.size=W.heap.size+3:=by rw[hw2];simp[hsz0]
 obtain⟨w3,hw3⟩:=nmq (w2.alloc (.cells #[.slice none 0 0] 276))
 have hm3:MkL C w2 w3 w2.heap.size 276 278 (.slice none 0 0) [] (PVal C ps (xsV C.n ps args)):=MkL.zero (by rw[hw3];exact(Fr.refl _ _).alloc _) (lrq _) (by rw[hw3];exact Bk.new _ _ _)
 have q2:=(hkq.fr0 hm3.fr).cell 2
 simp only[bgStC,List.getElem?_toArray,List.getElem?_cons_succ,List.getElem?_cons_zero]at q2
 have HSC:=hdq (show ∀w',Fr NoT w0 w'→ClS C W.heap.size (W.heap.size+1) nm (.agg #[.slice Ap np cp,.func (.func gB) #[] capsB]) w' from fun w' hf=>⟨(hkp0.fr0 hf).cell 0,(hpl w' (hf0.trans hf)).p.cell 2,(hkq0.fr0 hf).cell 1,hlk w' (hf0.trans hf)⟩)
 have HK5:=hdq hk5
 have HW0:=hdq hw0
 have HW2:=hdq hw2
 have HSZ0:=hdq hsz0
 have HF02:=hdq hf02
 have HX:=hdq hx
 have HIH:=hdq hX
 have HPL:=hdq hpl
 have HSM:=hdq hsm
 have HS:=hdq hS
 have HD:=hdq hD
 have HT:=hdq hT
 have HKP:=hdq hkp
 have HKQ:=hdq hkq
 have HF2:=hdq hf2
 have HM3:=hdq hm3
 have HN:=hdq hn
 have HI:=hdq (aiq hi1 (aiq hz1 (aiq hs1 hb1)))
 have HBW:=hdq hBW
 have HW3:=hdq hw3
 have HSZ:=hdq hsz2
 rw[hsz2]at HM3
 have HSZ3:=hdq (show W.heap.size+3 < w3.heap.size by have:=hm3.bk.lt;omega)
 rw[←hn]
 clear hx hX hpl hsm hS hD hT hkp hkq hf2 hm3 hn hi1 hz1 hs1 hb1 hBW hw3 hsz2 hw2 hpg hlk hf0 hkp0 hkq0 hsz0 hw0 hf02 hk5
 have hn1:n≤9223372036854775807:=by omega
 go_enter Tryz.func111,Tryz.ntmps111
 go_wp2_with fail
 have hw0:=HW0.out
 unfold stW at hw0
 rw[←hw0]
 clear hw0
 refine wp_region_E (ClS C W.heap.size (W.heap.size+1) nm (.agg #[.slice Ap np cp,.func (.func gB) #[] capsB])) (fun i=>decide (i < 8)) (by kernel_rfl) (HSC.out _ (Fr.refl _ _).drew) (fun hHeld=>?_)
 refine wpE_pu 4 ?_
 try simp only[Act.put,List.setIfInBounds_toArray,List.set_cons_zero,List.set_cons_succ]
 refine wpE_takeN 0 (v:=?_) rfl (by kernel_rfl) (fun _ _ _ h=>h) hHeld (by rfl) ?_ ?_;rotate_left
 ·intro wz hSz;(try dsimp only[ClS,PmS]at hSz);go_simp;try with_reducible rfl
 try simp only[Act.put,List.setIfInBounds_toArray,List.set_cons_zero,List.set_cons_succ]
 refine wpE_pu 1 ?_
 try simp only[Act.put,List.setIfInBounds_toArray,List.set_cons_zero,List.set_cons_succ]
 refine wpE_pu 2 ?_
 try simp only[Act.put,List.setIfInBounds_toArray,List.set_cons_zero,List.set_cons_succ]
 refine wpE_takeN 3 (v:=?_) rfl (by kernel_rfl) (fun _ _ _ h=>h) hHeld (by rfl) ?_ ?_;rotate_left
 ·intro wz hSz;(try dsimp only[ClS,PmS]at hSz);go_simp;try with_reducible rfl
 try simp only[Act.put,List.setIfInBounds_toArray,List.set_cons_zero,List.set_cons_succ]
 refine wpE_takeN 5 (v:=?_) rfl (by kernel_rfl) (fun _ _ _ h=>h) hHeld (by rfl) ?_ ?_;rotate_left
 ·intro wz hSz;(try dsimp only[ClS,PmS]at hSz);go_simp;try with_reducible rfl
 try simp only[Act.put,List.setIfInBounds_toArray,List.set_cons_zero,List.set_cons_succ]
 refine wpE_takeN 6 (v:=?_) rfl (by kernel_rfl) (fun _ _ _ h=>h) hHeld (by rfl) ?_ ?_;rotate_left
 ·intro wz hSz;(try dsimp only[ClS,PmS]at hSz);go_simp;try with_reducible rfl
 try simp only[Act.put,List.setIfInBounds_toArray,List.set_cons_zero,List.set_cons_succ]
 refine wpE_next 7 rfl (by kernel_rfl) (fun KK hK=>?_)
 go_simp
 refine hK _ _ (fun _ _=>HSC.out _ ((Fr.refl _ _).drew.alloc _)) ?_
 clear hK KK
 try simp only[Act.put,List.setIfInBounds_toArray,List.set_cons_zero,List.set_cons_succ]
 refine wpE_next 8 rfl (by kernel_rfl) (fun KK hK=>?_)
 go_simp
 have hz:=HSZ0.out
 rw[hz]
 rw[←HW2.out]
 refine hK _ _ (fun h=>absurd h (by decide)) ?_
 clear hK KK hz hHeld
 try simp only[Act.put,List.setIfInBounds_toArray,List.set_cons_zero,List.set_cons_succ]
 refine wpE_done (by kernel_rfl) ?_
 have hlq:=HKQ.out.lt
 have qq2:=HKQ.out.cell 2
 simp only[bgStC,List.getElem?_toArray,List.getElem?_cons_succ,List.getElem?_cons_zero]at qq2
 go_wp2_with fail
 rw[←HW3.out,HSZ.out]
 clear hlq qq2
 go_wp2_with fail
 go_loopw [19] (fun i wr=>∃(k':Nat) (v:Value) (vs:List Value),k'≤n∧i= .int .i64 k'∧Hid (MkL C w2 wr (W.heap.size+3) 276 278 v vs (PVal C ps (xsV C.n ps args)))∧vs.length=k') (fun i _=>n - (intOf i).toNat)
 case atStart=>exact⟨0,_,_,Nat.zero_le _,rfl,HM3,rfl⟩
 case round=>
  clear q2 HM3
  obtain⟨k',v,vs,hk,rfl,HM,hvl⟩:=hrel
  have HVL:=hdq hvl
  by_cases hlt:k' < n
  ·have hla:k' < args.len:=by rw[←HN.out];exact hlt
   obtain⟨b0,o0,rfl,hat⟩:=HX.out.2.2 (by omega)
   obtain⟨k0,n0,m0,a0,t0,r0,hdr⟩:=Exs.drop_cons hla
   have hfW:=HF2.out.trans HM.out.fr
   have hat1:=ExR.drop k' (ExR.keep (HSM.out wr hfW) hat)
   rw[hdr]at hat1
   obtain⟨⟨hbS,_,_,hm0,_,e0,e1,e2,e4⟩,⟨A1,c1,e3,s1⟩,_⟩:=hat1
   obtain⟨l1,hl1⟩:=nmq a0.len
   rw[←hl1]at e3
   have hXe:=xsV_at C.n ps k' args hdr
   have hcall:=HIH.out k' _ _ _ _ _ _ hdr
   have hlt':(k':Int) < (n:Int):=by omega
   have hbl:b0 < wr.heap.size:=ltq (ltq (HS.out _ hbS) HBW.out) hfW.size
   obtain⟨w4,hw4⟩:=nmq (wr.alloc (.cells #[.int .u8 k0,.string n0,.int .i64 m0,.slice A1 l1 c1,.int .i64 t0] 175))
   have hf4:Fr NoT wr w4:=by rw[hw4];exact(Fr.refl _ _).alloc _
   have hk4:Bk w4 wr.heap.size 175 #[.int .u8 k0,.string n0,.int .i64 m0,.slice A1 l1 c1,.int .i64 t0]:=by rw[hw4];exact Bk.new _ _ _
   have hT2:C.T≤w2.heap.size:=leq9 HT.out HF2.out.size
   have HT2:=hdq hT2
   have hm4:=HM.out.fr0 PVal.st hT2 hf4.drew
   have HS4:=hdq (show ∀w',Fr NoT w4 w'→PmS (W.heap.size+3) W.heap.size wr.heap.size (some ⟨C.P,0,none⟩) v (.int .u8 k0) (.string n0) (.int .i64 m0) (.slice A1 l1 c1) (.int .i64 t0) w' from fun w' hf=>
    ⟨((HM.out.bk.fr0 hf4).fr0 hf).cell 0,(((HKP.out.fr0 HM.out.fr).fr0 hf4).fr0 hf).cell 0,(hk4.fr0 hf).cell 0,(hk4.fr0 hf).cell 1,(hk4.fr0 hf).cell 2,(hk4.fr0 hf).cell 3,(hk4.fr0 hf).cell 4⟩)
   have HC4:=hdq (show ∀w',Fr NoT w4 w'→_ from fun w' hf=>hcall w' S Z A1 c1 (leq9 HT.out (hfW.trans (hf4.trans hf)).size) (HPL.out w' (hfW.trans (hf4.trans hf))) HS.out hm0 (s1.imp fun _ _ hx=>ExR.keep ((hf4.trans hf).same fun b hb=>⟨ltq (ltq (HS.out b hb) HBW.out) hfW.size,id⟩) hx))
   rw[←hl1]at HC4
   have HM4:=hdq hm4
   have HW4:=hdq hw4
   have HXE:=hdq hXe
   clear hat hfW hm0 s1 hl1 hXe hcall hw4 hf4 hk4 hm4 hdr hla hT2 HM
   go_wp2_with fail
   rw[←HW4.out]
   refine wp_region_E (PmS (W.heap.size+3) W.heap.size wr.heap.size (some ⟨C.P,0,none⟩) v (.int .u8 k0) (.string n0) (.int .i64 m0) (.slice A1 l1 c1) (.int .i64 t0)) (fun i=>decide (i < 5)) (by kernel_rfl) (HS4.out _ (Fr.refl _ _).drew) (fun hHeld=>?_)
   refine wpE_take 0 (v:=?_) rfl (by kernel_rfl) (fun _ _ _ h=>h) hHeld (by rfl) ?_ ?_;rotate_left
   ·intro wz hSz;(try dsimp only[ClS,PmS]at hSz);go_simp;try with_reducible rfl
   try simp only[Act.put,List.setIfInBounds_toArray,List.set_cons_zero,List.set_cons_succ]
   refine wpE_take 1 (v:=?_) rfl (by kernel_rfl) (fun _ _ _ h=>h) hHeld (by rfl) ?_ ?_;rotate_left
   ·intro wz hSz;(try dsimp only[ClS,PmS]at hSz);go_simp;try with_reducible rfl
   try simp only[Act.put,List.setIfInBounds_toArray,List.set_cons_zero,List.set_cons_succ]
   refine wpE_take 2 (v:=?_) rfl (by kernel_rfl) (fun _ _ _ h=>h) hHeld (by rfl) ?_ ?_;rotate_left
   ·intro wz hSz;(try dsimp only[ClS,PmS]at hSz);go_simp;try with_reducible rfl
   try simp only[Act.put,List.setIfInBounds_toArray,List.set_cons_zero,List.set_cons_succ]
   refine wpE_next 3 rfl (by kernel_rfl) (fun KK hK=>?_)
   go_simp
   go_at_call 175
   refine(HC4.out _ (Fr.refl NoT w4).drew).mono ?_
   rintro _ w5 ⟨u,rfl,hf5,hv5⟩
   obtain⟨gg,cps,rfl⟩:=hv5.func
   have HF5:=hdq hf5
   have HV5:=hdq hv5
   have HS5:=hdq (HS4.out _ ((Fr.refl NoT w4).drew.trans hf5))
   clear hf5 hv5
   try dsimp only
   refine hK _ _ (fun _ _=>HS5.out) ?_
   clear hK KK
   try simp only[Act.put,List.setIfInBounds_toArray,List.set_cons_zero,List.set_cons_succ]
   refine wpE_next 4 rfl (by kernel_rfl) (fun KK hK=>?_)
   go_simp
   obtain⟨w6,hw6⟩:=nmq (w5.alloc (.cells #[.func (.func gg) #[] cps] 278))
   rw[←hw6]
   have hf6:Fr NoT w5 w6:=by rw[hw6];exact(Fr.refl _ _).alloc _
   have hk6:Bk w6 w5.heap.size 278 #[.func (.func gg) #[] cps]:=by rw[hw6];exact Bk.new _ _ _
   have hs6:w6.heap.size=w5.heap.size+1:=by rw[hw6];simp
   have HS6:=hdq (HS4.out _ (((Fr.refl NoT w4).drew.trans HF5.out).trans hf6))
   have hm6:=(HM4.out.fr0 PVal.st HT2.out HF5.out).fr0 PVal.st HT2.out hf6
   have HM6:=hdq hm6
   have HK6:=hdq hk6
   have HW6:=hdq hw6
   have HS66:=hdq hs6
   clear hw6 hf6 hk6 hs6 hm6
   try dsimp only
   refine hK _ _ (fun _ _=>HS6.out) ?_
   clear hK KK
   try simp only[Act.put,List.setIfInBounds_toArray,List.set_cons_zero,List.set_cons_succ]
   refine wpE_next 5 rfl (by kernel_rfl) (fun KK hK=>?_)
   refine step_append_lies _ (by rfl) _ _ _ (by rfl) (W.heap.size+3+1) 278 i1 .nilFunc 1 8 Tryz.underlying276 HI.out.1 HI.out.2.1 HI.out.2.2.1 HI.out.2.2.2 rfl (by decide) v vs.length vs (by rfl) HM6.out.row
    ⟨w5.heap.size,0,none⟩ 1 1 [.func (.func gg) #[] cps] (by rfl) (by rfl) HK6.out.newsK (by simp[Value.oneCell']) (by omega) ?c63 ?cby ?cba (w5.heap.size+1) HS66.out ?_
   case c63=>have:=HVL.out;unfold maxLen;omega
   case cby=>have:=HVL.out;omega
   case cba=>have h1:=HM6.out.bk.lt;omega
   intro gg7 cap w7 hown hgrow hsp hlt7
   have hgrow':=hgrow
   rw[HW6.out]at hgrow'
   have hst:=HM4.out.step PVal.st HT2.out HF5.out ⟨_,by rw[HVL.out];exact HXE.out,HV5.out⟩ hown hgrow' (by
    rcases hsp with e|e
    ·exact .inl e.symm
    ·exact .inr (by rw[e];rfl))
   have hneg:some (W.heap.size+3)≠v.ownBlock:=fun e=>by have:=HM6.out.row.lt _ e.symm;omega
   have f7:=(hgrow.frozen_far ⟨W.heap.size+3,0,none⟩ HM6.out.bk.lt hneg).trans (HM6.out.bk.frozen 0)
   have c7:=(hgrow.cell_far ⟨W.heap.size+3,0,none⟩ HM6.out.bk.lt hneg).trans (HM6.out.bk.cell 0)
   have l7:W.heap.size+3 < w7.heap.size:=ltq HM6.out.bk.lt hgrow.size
   have HST:=hdq hst
   simp only[List.getElem?_toArray,List.getElem?_cons_succ,List.getElem?_cons_zero]at c7
   clear hown hgrow hgrow' hsp hst hneg hHeld
   try dsimp only
   refine hK _ _ (fun h=>absurd h (by decide)) ?_
   clear hK KK
   try simp only[Act.put,List.setIfInBounds_toArray,List.set_cons_zero,List.set_cons_succ]
   refine wpE_next 6 rfl (by kernel_rfl) (fun KK hK=>?_)
   go_simp
   refine hK _ _ (fun h=>absurd h (by decide)) ?_
   clear hK KK
   try simp only[Act.put,List.setIfInBounds_toArray,List.set_cons_zero,List.set_cons_succ]
   refine wpE_done (by kernel_rfl) ?_
   clear c7 f7 l7 e0 e1 e2 e3 e4
   go_wp2_with fail
   go_roundw
   case rel=>exact⟨k'+1,_,_,by omega,by go_num,hdq (by have h9:=HST.out;rw[HVL.out]at h9;exact h9),by rw[List.length_append,HVL.out];rfl⟩
   case measure=>simp[intOf];omega
  ·have hge:¬(k':Int) < (n:Int):=by omega
   obtain⟨A,c,rfl,hrow⟩:=HM.out.rowF
   have hfW:=HF2.out.trans HM.out.fr
   have hkn:vs.length=n:=by omega
   have h2:=HF2.out.size
   have hr:=HD.out wr (W.heap.size+3) A c vs hfW ⟨HKP.out.fr0 HM.out.fr,lrq _,(HKP.out.fr0 HM.out.fr).lt⟩ (by rw[←HN.out];exact⟨HKQ.out.fr0 HM.out.fr,Nat.le_succ _,(HKQ.out.fr0 HM.out.fr).lt⟩) ⟨HK5.out.fr0 HM.out.fr,by omega,(HK5.out.fr0 HM.out.fr).lt⟩ (by rw[←HN.out,←hkn];exact⟨HM.out.bk,by omega,HM.out.bk.lt⟩) ⟨hrow.1,hrow.2.1,fun hp=>by
     obtain⟨b,e,g1,g2,g3⟩:=hrow.2.2 hp
     exact⟨b,e,leq9 h2 g1,g2,g3⟩⟩ (by rw[hkn];exact HN.out) (fun i u X hu hX=>by
     obtain⟨lo,hi,⟨X',e,hv⟩,g1,g2,_⟩:=HM.out.vals i u hu
     rw[hX]at e
     obtain rfl:=Option.some.inj e
     exact hv.wide (leq9 h2 g1) g2)
   have HR:=hdq (show MkD C ps D W _ wr from⟨_,rfl,hfW,hr⟩)
   clear hr hrow hfW HM hkn h2
   go_wp2_with fail
   go_ret
   exact HR.out

def PrAt (C:BgC) (kn:List UInt8→Prop) (w:World):Prop:=∃N f,MpV w C.MP N f∧∀nm p,kn nm→C.n.procs nm=some p→
 ∃Ap cp vb S Z,f nm=some (.agg #[.slice Ap p.params.length cp,vb])∧DoP C (p.params.map (·.nm.data.toList)) vb (RunT C.n (.all (p.params.map (·.nm.data.toList)) p.body)) 0 0 w∧SlR (VaR w S Z p.params) p.params.length 24 Ap cp∧(∀b,S b→b < C.B)∧(∀x∈p.params,x.nm.size≤9223372036854775807)∧(p.params.map (·.nm.data.toList)).Nodup ∧∀nm∈p.params.map (·.nm.data.toList),posI C.n.vars nm=none
theorem PrAt.fr0 {C:BgC} {kn:List UInt8→Prop} {w w':World} (h:PrAt C kn w) (ho:C.Ok) (hT:C.T≤w.heap.size) (hf:Fr NoT w w'):PrAt C kn w':=by
 obtain⟨N,f,h1,h2⟩:=h
 refine⟨N,f,h1.fr hf id,fun nm p hk hp=>?_⟩
 obtain⟨Ap,cp,vb,S,Z,g1,g2,g3,g4,g5⟩:=h2 nm p hk hp
 have hBT:C.B≤C.T:=by have h1:=ho.br;have h2:=ho.rT;omega
 exact⟨Ap,cp,vb,S,Z,g1,g2.later (Later.of0 hf (Nat.zero_le _) hT),g3.imp fun _ _ hx=>VaR.keep (hf.same fun b hb=>⟨ltq (g4 b hb) (leq9 hBT hT),id⟩) hx,g4,g5⟩
def dsS (n:Bn) (ps:List (List UInt8)):Sts→List DoR
 | .nil => []
 | .cons k nm args cond body els at_ r=>RunT n (.one ps k nm args cond body els at_)::dsS n ps r
theorem dsS_len (n:Bn) (ps:List (List UInt8)):∀xs,(dsS n ps xs).length =xs.len
 | .nil =>rfl
 | .cons _ _ _ _ _ _ _ r=>by simp only[dsS,Sts.len,List.length_cons,dsS_len n ps r]
theorem dsS_at (n:Bn) (ps:List (List UInt8)):∀(i:Nat) (xs:Sts) {k nm a c b e t r},Sts.drop i xs= .cons k nm a c b e t r→(dsS n ps xs)[i]?=some (RunT n (.one ps k nm a c b e t))
 |0,.cons _ _ _ _ _ _ _ _,_,_,_,_,_,_,_,_,h=>by
  simp only[Sts.drop,Sts.cons.injEq]at h
  obtain⟨rfl,rfl,rfl,rfl,rfl,rfl,rfl,_⟩:=h
  rfl
 |0,.nil,_,_,_,_,_,_,_,_,h=>by simp[Sts.drop]at h
 |i+1,.nil,_,_,_,_,_,_,_,_,h=>by simp[Sts.drop]at h
 |i+1,.cons _ _ _ _ _ _ _ r,_,_,_,_,_,_,_,_,h=>by
  simp only[Sts.drop]at h
  simpa[dsS]using dsS_at n ps i r h
theorem dsS_left (n:Bn) (ps:List (List UInt8)):∀xs,∀D∈dsS n ps xs,∀s h t,D s h t→t.left≤s.left
 | .nil,D,hD,_,_,_,_=>by simp[dsS]at hD
 | .cons k nm args cond body els at_ r,D,hD,s,h,t,hr=>by
  simp only[dsS,List.mem_cons]at hD
  rcases hD with rfl|hD
  ·exact RunT.left_le hr
  ·exact dsS_left n ps r D hD s h t hr
theorem run_seq {n:Bn} {ps:List (List UInt8)}:∀(xs:Sts) {s h t},RunT n (.all ps xs) s h t→seqD (dsS n ps xs) s h t
 | .nil,s,h,t,hr=>by cases hr;exact⟨rfl,rfl⟩
 | .cons _ _ _ _ _ _ _ r,s,h,t,hr=>by
  cases hr with
  |next h1 h2=>exact .inr ⟨_,h1,run_seq r h2⟩
  |stop h1=>exact .inl ⟨_,rfl,h1⟩
theorem DoP.to {C:BgC} {ps:List (List UInt8)} {val:Value} {D D':DoR} {lo hi:Nat} {w:World} (h:DoP C ps val D lo hi w) (hD:∀s h t,D' s h t→D s h t):DoP C ps val D' lo hi w:=by
 obtain⟨g,caps,h1,h2,h3⟩:=h
 exact⟨g,caps,h1,h2,fun W oc nb s h t hr hd=>h3 W oc nb s h t hr (hD _ _ _ hd)⟩
theorem DoP.func {C:BgC} {ps:List (List UInt8)} {val:Value} {D:DoR} {lo hi:Nat} {w:World} (h:DoP C ps val D lo hi w):∃g caps,val= .func (.func g) #[] caps:=by
 obtain⟨g,caps,e,_⟩:=h
 exact⟨g,caps,e⟩
def PDo (C:BgC) (ps:List (List UInt8)) (Ds:List DoR):RowP:=fun i v lo hi w=>∃D,Ds[i]?=some D∧DoP C ps v D lo hi w
theorem PDo.st {C:BgC} {ps:List (List UInt8)} {Ds:List DoR}:RwS C (PDo C ps Ds):=fun i v lo hi w w' hl h=>by
 obtain⟨D,h1,h2⟩:=h
 exact⟨D,h1,h2.later hl⟩
def OneC (C:BgC) (kn:List UInt8→Prop) (ps:List (List UInt8)) (k:Int) (nm:ByteArray) (args:Exs) (cond:Cds) (body els:Sts) (at_:Int):Prop:=
 ∀(W:World) (S:Nat→Prop) (Z:Prop) (A2 A3 A4 A5:Option Addr) (c2 c3 c4 c5:Nat),C.T≤W.heap.size→PgAt C W→PrAt C kn W→(∀x,S x→x < C.B)→SlR (fun b o=>ExR W S Z args b o) args.len 64 A2 c2→SlR (fun b o=>CdR W S Z cond b o) cond.len 64 A3 c3→SlR (fun b o=>StR W S Z body b o) body.len 128 A4 c4→SlR (fun b o=>StR W S Z els b o) els.len 128 A5 c5→
  Calls Tryz.prog 54 #[.pointer (some ⟨C.P,0,none⟩),.agg (bgStC k nm A2 A3 A4 A5 args.len c2 cond.len c3 body.len c4 els.len c5 at_)] W (MkD C ps (RunT C.n (.one ps k nm args cond body els at_)) W)
def AllC9 (C:BgC) (kn:List UInt8→Prop) (ps:List (List UInt8)) (xs:Sts):Prop:=
 ∀(W:World) (S:Nat→Prop) (Z:Prop) (A:Option Addr) (c:Nat),C.T≤W.heap.size→PgAt C W→PrAt C kn W→(∀x,S x→x < C.B)→SlR (fun b o=>StR W S Z xs b o) xs.len 128 A c→
  Calls Tryz.prog 23 #[.pointer (some ⟨C.P,0,none⟩),.slice A xs.len c] W (MkD C ps (RunT C.n (.all ps xs)) W)
def PaS (g b:Nat) (v v0 v1 v2 v3 v4 v5 v6:Value) (W:World):Prop:=W.cell? ⟨g,0,none⟩=some v∧W.cell? ⟨b,0,none⟩=some v0∧W.cell? ⟨b,1,none⟩=some v1∧W.cell? ⟨b,2,none⟩=some v2∧W.cell? ⟨b,3,none⟩=some v3∧W.cell? ⟨b,4,none⟩=some v4∧W.cell? ⟨b,5,none⟩=some v5∧W.cell? ⟨b,6,none⟩=some v6
theorem infoDeed9:(Tryz.prog.info? 80).map (fun i=>(i.zero,i.size,i.bytes))=some (some .nilFunc,1,8):=by kernel_rfl
theorem all_make (C:BgC) (kn:List UInt8→Prop) (ps:List (List UInt8)) (ho:C.Ok) (xs:Sts) (hX:∀i k nm a cd b e t r,Sts.drop i xs= .cons k nm a cd b e t r→OneC C kn ps k nm a cd b e t):AllC9 C kn ps xs:=by
 intro W S Z A c hT hpg hpr hS hx
 obtain⟨i1,hi1,hz1,hs1,hb1⟩:=info_parts infoDeed9
 obtain⟨n,hn⟩:=nmq xs.len
 have hnm:n*128≤140737488355328:=by rw[hn];exact hx.2.1.2
 have hBW:C.B≤W.heap.size:=by have h1:=ho.br;have h2:=ho.rT;omega
 have hpl:∀w',Fr NoT W w'→PgAt C w':=fun w' hf=>hpg.later ho (Later.of0 (lo:=0) (hi:=0) hf (Nat.zero_le _) hT)
 have hpq:∀w',Fr NoT W w'→PrAt C kn w':=fun w' hf=>hpr.fr0 ho hT hf
 have hsm:∀w',Fr NoT W w'→SameS S W w':=fun w' hf=>hf.same fun b hb=>⟨ltq (hS b hb) hBW,id⟩
 obtain⟨w3,hw3⟩:=nmq (W.alloc (.cells #[.slice none 0 0] 147))
 have hm3:MkL C W w3 W.heap.size 147 80 (.slice none 0 0) [] (PDo C ps (dsS C.n ps xs)):=MkL.zero (by rw[hw3];exact(Fr.refl _ _).alloc _) (lrq _) (by rw[hw3];exact Bk.new _ _ _)
 have HX:=hdq hx
 have HIH:=hdq hX
 have HPL:=hdq hpl
 have HPQ:=hdq hpq
 have HSM:=hdq hsm
 have HS:=hdq hS
 have HT:=hdq hT
 have HM3:=hdq hm3
 have HN:=hdq hn
 have HI:=hdq (aiq hi1 (aiq hz1 (aiq hs1 hb1)))
 have HBW:=hdq hBW
 have HW3:=hdq hw3
 have HO:=hdq ho
 rw[←hn]
 clear hx hX hpl hpq hsm hS hT hm3 hn hi1 hz1 hs1 hb1 hBW hw3 hpg hpr ho
 have hn1:n≤9223372036854775807:=by omega
 go_enter Tryz.func23,Tryz.ntmps23
 go_wp2_with fail
 rw[←HW3.out]
 go_loopw [10] (fun i wr=>∃(k':Nat) (v:Value) (vs:List Value),k'≤n∧i= .int .i64 k'∧Hid (MkL C W wr W.heap.size 147 80 v vs (PDo C ps (dsS C.n ps xs)))∧vs.length=k') (fun i _=>n - (intOf i).toNat)
 case atStart=>exact⟨0,_,_,Nat.zero_le _,rfl,HM3,rfl⟩
 case round=>
  clear HM3
  obtain⟨k',v,vs,hk,rfl,HM,hvl⟩:=hrel
  have HVL:=hdq hvl
  by_cases hlt:k' < n
  ·have hla:k' < xs.len:=by rw[←HN.out];exact hlt
   obtain⟨b0,o0,rfl,hat⟩:=HX.out.2.2 (by omega)
   obtain⟨k0,n0,a0,d0,y0,z0,t0,r0,hdr⟩:=Sts.drop_cons hla
   have hfW:=HM.out.fr
   have hat1:=StR.drop k' (StR.keep (HSM.out wr hfW) hat)
   rw[hdr]at hat1
   obtain⟨⟨hbS,_,_,_,e0,e1,e6⟩,⟨A2,c2,e2,s2⟩,⟨A3,c3,e3,s3⟩,⟨A4,c4,e4,s4⟩,⟨A5,c5,e5,s5⟩,_⟩:=hat1
   obtain⟨l2,hl2⟩:=nmq a0.len
   obtain⟨l3,hl3⟩:=nmq d0.len
   obtain⟨l4,hl4⟩:=nmq y0.len
   obtain⟨l5,hl5⟩:=nmq z0.len
   rw[←hl2]at e2
   rw[←hl3]at e3
   rw[←hl4]at e4
   rw[←hl5]at e5
   have hXe:=dsS_at C.n ps k' xs hdr
   have hcall:=HIH.out k' _ _ _ _ _ _ _ _ hdr
   have hlt':(k':Int) < (n:Int):=by omega
   have hbl:b0 < wr.heap.size:=ltq (ltq (HS.out _ hbS) HBW.out) hfW.size
   obtain⟨w4,hw4⟩:=nmq (wr.alloc (.cells #[.int .u8 k0,.string n0,.slice A2 l2 c2,.slice A3 l3 c3,.slice A4 l4 c4,.slice A5 l5 c5,.int .i64 t0] 51))
   have hf4:Fr NoT wr w4:=by rw[hw4];exact(Fr.refl _ _).alloc _
   have hk4:Bk w4 wr.heap.size 51 #[.int .u8 k0,.string n0,.slice A2 l2 c2,.slice A3 l3 c3,.slice A4 l4 c4,.slice A5 l5 c5,.int .i64 t0]:=by rw[hw4];exact Bk.new _ _ _
   have hm4:=HM.out.fr0 PDo.st HT.out hf4.drew
   have HS4:=hdq (show ∀w',Fr NoT w4 w'→PaS W.heap.size wr.heap.size v (.int .u8 k0) (.string n0) (.slice A2 l2 c2) (.slice A3 l3 c3) (.slice A4 l4 c4) (.slice A5 l5 c5) (.int .i64 t0) w' from fun w' hf=>
    ⟨((HM.out.bk.fr0 hf4).fr0 hf).cell 0,(hk4.fr0 hf).cell 0,(hk4.fr0 hf).cell 1,(hk4.fr0 hf).cell 2,(hk4.fr0 hf).cell 3,(hk4.fr0 hf).cell 4,(hk4.fr0 hf).cell 5,(hk4.fr0 hf).cell 6⟩)
   have HC4:=hdq (show ∀w',Fr NoT w4 w'→_ from fun w' hf=>
    have hss:SameS S wr w':=(hf4.trans hf).same fun b hb=>⟨ltq (ltq (HS.out b hb) HBW.out) hfW.size,id⟩
    hcall w' S Z A2 A3 A4 A5 c2 c3 c4 c5 (leq9 HT.out (hfW.trans (hf4.trans hf)).size) (HPL.out w' (hfW.trans (hf4.trans hf))) (HPQ.out w' (hfW.trans (hf4.trans hf))) HS.out (s2.imp fun _ _ hx=>ExR.keep hss hx) (s3.imp fun _ _ hx=>CdR.keep hss hx) (s4.imp fun _ _ hx=>StR.keep hss hx) (s5.imp fun _ _ hx=>StR.keep hss hx))
   rw[←hl2,←hl3,←hl4,←hl5]at HC4
   have HM4:=hdq hm4
   have HW4:=hdq hw4
   have HXE:=hdq hXe
   clear hat hfW s2 s3 s4 s5 hl2 hl3 hl4 hl5 hXe hcall hw4 hf4 hk4 hm4 hdr hla HM
   go_wp2_with fail
   rw[←HW4.out]
   refine wp_region_E (PaS W.heap.size wr.heap.size v (.int .u8 k0) (.string n0) (.slice A2 l2 c2) (.slice A3 l3 c3) (.slice A4 l4 c4) (.slice A5 l5 c5) (.int .i64 t0)) (fun i=>decide (i < 5)) (by kernel_rfl) (HS4.out _ (Fr.refl _ _).drew) (fun hHeld=>?_)
   refine wpE_pu 1 ?_
   try simp only[Act.put,List.setIfInBounds_toArray,List.set_cons_zero,List.set_cons_succ]
   refine wpE_tv 0 hHeld ?_
   try simp only[Act.put,List.setIfInBounds_toArray,List.set_cons_zero,List.set_cons_succ]
   refine wpE_tv 2 hHeld ?_
   try simp only[Act.put,List.setIfInBounds_toArray,List.set_cons_zero,List.set_cons_succ]
   refine wpE_next 3 rfl (by kernel_rfl) (fun KK hK=>?_)
   go_simp
   go_at_call 54
   refine(HC4.out _ (Fr.refl NoT w4).drew).mono ?_
   rintro _ w5 ⟨u,rfl,hf5,hv5⟩
   obtain⟨gg,cps,rfl⟩:=hv5.func
   have HF5:=hdq hf5
   have HV5:=hdq hv5
   have HS5:=hdq (HS4.out _ ((Fr.refl NoT w4).drew.trans hf5))
   clear hf5 hv5
   try dsimp only
   refine hK _ _ (fun _ _=>HS5.out) ?_
   clear hK KK
   try simp only[Act.put,List.setIfInBounds_toArray,List.set_cons_zero,List.set_cons_succ]
   refine wpE_next 4 rfl (by kernel_rfl) (fun KK hK=>?_)
   go_simp
   obtain⟨w6,hw6⟩:=nmq (w5.alloc (.cells #[.func (.func gg) #[] cps] 80))
   rw[←hw6]
   have hf6:Fr NoT w5 w6:=by rw[hw6];exact(Fr.refl _ _).alloc _
   have hk6:Bk w6 w5.heap.size 80 #[.func (.func gg) #[] cps]:=by rw[hw6];exact Bk.new _ _ _
   have hs6:w6.heap.size=w5.heap.size+1:=by rw[hw6];simp
   have HS6:=hdq (HS4.out _ (((Fr.refl NoT w4).drew.trans HF5.out).trans hf6))
   have hm6:=(HM4.out.fr0 PDo.st HT.out HF5.out).fr0 PDo.st HT.out hf6
   have HM6:=hdq hm6
   have HK6:=hdq hk6
   have HW6:=hdq hw6
   have HS66:=hdq hs6
   clear hw6 hf6 hk6 hs6 hm6
   try dsimp only
   refine hK _ _ (fun _ _=>HS6.out) ?_
   clear hK KK
   try simp only[Act.put,List.setIfInBounds_toArray,List.set_cons_zero,List.set_cons_succ]
   refine wpE_next 5 rfl (by kernel_rfl) (fun KK hK=>?_)
   refine step_append_lies _ (by rfl) _ _ _ (by rfl) (W.heap.size+1) 80 i1 .nilFunc 1 8 Tryz.underlying147 HI.out.1 HI.out.2.1 HI.out.2.2.1 HI.out.2.2.2 rfl (by decide) v vs.length vs (by rfl) HM6.out.row
    ⟨w5.heap.size,0,none⟩ 1 1 [.func (.func gg) #[] cps] (by rfl) (by rfl) HK6.out.newsK (by simp[Value.oneCell']) (by omega) ?c63 ?cby ?cba (w5.heap.size+1) HS66.out ?_
   case c63=>have:=HVL.out;unfold maxLen;omega
   case cby=>have:=HVL.out;omega
   case cba=>have h1:=HM6.out.bk.lt;omega
   intro gg7 cap w7 hown hgrow hsp hlt7
   have hgrow':=hgrow
   rw[HW6.out]at hgrow'
   have hst:=HM4.out.step PDo.st HT.out HF5.out ⟨_,by rw[HVL.out];exact HXE.out,HV5.out⟩ hown hgrow' (by
    rcases hsp with e|e
    ·exact .inl e.symm
    ·exact .inr (by rw[e];rfl))
   have hneg:some W.heap.size≠v.ownBlock:=fun e=>by have:=HM6.out.row.lt _ e.symm;omega
   have f7:=(hgrow.frozen_far ⟨W.heap.size,0,none⟩ HM6.out.bk.lt hneg).trans (HM6.out.bk.frozen 0)
   have c7:=(hgrow.cell_far ⟨W.heap.size,0,none⟩ HM6.out.bk.lt hneg).trans (HM6.out.bk.cell 0)
   have l7:W.heap.size < w7.heap.size:=ltq HM6.out.bk.lt hgrow.size
   have HST:=hdq hst
   simp only[List.getElem?_toArray,List.getElem?_cons_succ,List.getElem?_cons_zero]at c7
   clear hown hgrow hgrow' hsp hst hneg hHeld
   try dsimp only
   refine hK _ _ (fun h=>absurd h (by decide)) ?_
   clear hK KK
   try simp only[Act.put,List.setIfInBounds_toArray,List.set_cons_zero,List.set_cons_succ]
   refine wpE_next 6 rfl (by kernel_rfl) (fun KK hK=>?_)
   go_simp
   refine hK _ _ (fun h=>absurd h (by decide)) ?_
   clear hK KK
   try simp only[Act.put,List.setIfInBounds_toArray,List.set_cons_zero,List.set_cons_succ]
   refine wpE_done (by kernel_rfl) ?_
   clear c7 f7 l7 e0 e1 e2 e3 e4 e5 e6
   go_wp2_with fail
   go_roundw
   case rel=>exact⟨k'+1,_,_,by omega,by go_num,hdq (by have h9:=HST.out;rw[HVL.out]at h9;exact h9),by rw[List.length_append,HVL.out];rfl⟩
   case measure=>simp[intOf];omega
  ·have hge:¬(k':Int) < (n:Int):=by omega
   obtain⟨A9,c9,rfl,hrow⟩:=HM.out.rowF
   have hfW:=HM.out.fr
   have hkn:vs.length=n:=by omega
   have hlen:vs.length=(dsS C.n ps xs).length :=by rw[dsS_len,hkn];exact HN.out
   have hd:=all_1 (ps:=ps) HO.out HT.out ⟨HM.out.bk,lrq _,HM.out.bk.lt⟩ hrow hlen (fun i u D hu hD=>by
     obtain⟨lo,hi,⟨D',e,hv⟩,g1,g2,_⟩:=HM.out.vals i u hu
     rw[hD]at e
     obtain rfl:=Option.some.inj e
     exact hv.wide g1 g2) (dsS_left C.n ps xs)
   have HR:=hdq (show MkD C ps (RunT C.n (.all ps xs)) W _ wr from⟨_,rfl,hfW,hd.to fun s h t hr=>run_seq xs hr⟩)
   clear hd hrow hfW HM hkn hlen
   go_wp2_with fail
   go_ret
   exact HR.out
end Go.Proofs.YtfomomaomggpbaaGreatDoor
