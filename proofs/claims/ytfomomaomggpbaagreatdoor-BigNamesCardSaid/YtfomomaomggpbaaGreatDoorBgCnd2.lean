/-
  big: the truth of two conditions, of a comparison; of any. Printed by wip/gen_bg/mkcnd.py and wip/gen_in/reg.py.
-/
import Derived.Test.YtfomomaomggpbaaGreatDoorJgBgTru
set_option linter.unusedVariables false
set_option linter.unusedSimpArgs false
set_option maxHeartbeats 6400000
set_option maxRecDepth 100000
namespace Go.Proofs.YtfomomaomggpbaaGreatDoor
open Go.RowKit Go.Shelf

theorem cnd_two (C:BgC) (ps:List (List UInt8)) (ho:C.Ok) (k:Int) (hk:k=10∨k=11) (args:Exs) (of_:Cds) (at_:Int) (k0 a0 o0 t0 k1 a1 o1 t1) (e:of_= .cons k0 a0 o0 t0 (.cons k1 a1 o1 t1 .nil)) (h0:CndC C ps k0 a0 o0 t0) (h1:CndC C ps k1 a1 o1 t1):CndC C ps k args of_ at_:=by
 intro W S Z A A2 c c2 hT hpg hS hx hx2
 obtain⟨bb,oo,rfl,hat⟩:=hx2.2.2 (by rw[e];simp[Cds.len])
 rw[e]at hat
 obtain⟨⟨hbS,_,_,_,e0,e3⟩,⟨A3,c3,e1,s1⟩,⟨A4,c4,e2,s2⟩,hat2⟩:=hat
 obtain⟨⟨_,_,_,_,f0,f3⟩,⟨A5,c5,f1,s3⟩,⟨A6,c6,f2,s4⟩,_⟩:=hat2
 obtain⟨l,hl⟩:=nmq args.len
 obtain⟨l2,hl2⟩:=nmq of_.len
 have hl20:1 < l2:=by rw[hl2,e];simp[Cds.len]
 have hl21:0 < l2:=by omega
 have hl22:(1:Int) < (l2:Int):=by omega
 have hl2m:l2≤9223372036854775807:=by rw[hl2];exact leq9 hx2.1 hx2.2.1.1
 obtain⟨l3,hl3⟩:=nmq a0.len
 obtain⟨l5,hl5⟩:=nmq a1.len
 obtain⟨l4,hl4⟩:=nmq o0.len
 obtain⟨l6,hl6⟩:=nmq o1.len
 rw[←hl3]at e1
 rw[←hl4]at e2
 rw[←hl5]at f1
 rw[←hl6]at f2
 obtain⟨w2,hw2⟩:=nmq (bgBoxC C W k A (some ⟨bb,oo,none⟩) l c l2 c2 at_)
 have hB:bgBxC C W w2 k A (some ⟨bb,oo,none⟩) l c l2 c2 at_:=by rw[hw2];exact boxC_at
 have hBW:C.B≤W.heap.size:=by have h1:=ho.br;have h2:=ho.rT;omega
 have hbW:bb < W.heap.size:=ltq (hS _ hbS) hBW
 have hT2:C.T≤w2.drew.heap.size:=leq9 hT hB.fr.size
 have hsm:∀w',Fr NoT W w'→SameS S W w':=fun w' hf=>hf.same fun b hb=>⟨ltq (hS b hb) hBW,id⟩
 have hpl:∀w',Fr NoT W w'→PgAt C w':=fun w' hf=>hpg.later ho (Later.of0 (lo:=0) (hi:=0) hf (Nat.zero_le _) hT)
 have hcall0:∀w',Fr NoT W w'→_:=fun w' hf=>h0 w' S Z A3 A4 c3 c4 (leq9 hT hf.size) (hpl w' hf) hS (s1.imp fun _ _ hx=>ExR.keep (hsm w' hf) hx) (s2.imp fun _ _ hx=>CdR.keep (hsm w' hf) hx)
 have hcall1:∀w',Fr NoT W w'→_:=fun w' hf=>h1 w' S Z A5 A6 c5 c6 (leq9 hT hf.size) (hpl w' hf) hS (s3.imp fun _ _ hx=>ExR.keep (hsm w' hf) hx) (s4.imp fun _ _ hx=>CdR.keep (hsm w' hf) hx)
 have hs2:∀w',Fr NoT w2 w'→C11 W.heap.size (W.heap.size+1) bb oo (some ⟨C.P,0,none⟩) (some ⟨bb,oo,none⟩) l2 c2 (.int .u8 k0) (.slice A3 l3 c3) (.slice A4 l4 c4) (.int .i64 t0) (.int .u8 k1) (.slice A5 l5 c5) (.slice A6 l6 c6) (.int .i64 t1) w':=fun w' hf=>
  have hf2:=hB.fr.trans hf
  ⟨⟨(hB.next hf).p.cell 0,(hB.next hf).q.cell 2,(hf2.cell hbW id).trans e0,(hf2.cell hbW id).trans e1,(hf2.cell hbW id).trans e2,(hf2.cell hbW id).trans e3⟩,(hf2.cell hbW id).trans f0,(hf2.cell hbW id).trans f1,(hf2.cell hbW id).trans f2,(hf2.cell hbW id).trans f3⟩
 have hall:∀w7 x1 x2 v1 v2 lo1 hi1 lo2 hi2,Fr NoT w2 w7→Bk w7 x1 223 #[v1]→w2.heap.size≤x1→Bk w7 x2 223 #[v2]→w2.heap.size≤x2→TruP C ps v1 (truS C.n ps k0 a0 o0 t0) lo1 hi1 w7→w2.heap.size≤lo1→hi1≤w7.heap.size→TruP C ps v2 (truS C.n ps k1 a1 o1 t1) lo2 hi2 w7→w2.heap.size≤lo2→hi2≤w7.heap.size→
   MkT C ps (truS C.n ps k args of_ at_) W (.returned (.func (.func 181) #[] #[.pointer (some ⟨x1,0,none⟩),.pointer (some ⟨W.heap.size+1,0,none⟩),.pointer (some ⟨x2,0,none⟩)])) w7:=by
  intro w7 x1 x2 v1 v2 lo1 hi1 lo2 hi2 hf0 hx1 hg1 hx2 hg2 hv1 hlo1 hhi1 hv2 hlo2 hhi2
  have hf7:=hB.fr.trans hf0
  have hB7:=hB.next hf0
  have h2:=hB.fr.size
  have hlo1:=leq9 h2 hlo1
  have hlo2:=leq9 h2 hlo2
  have hx1:Bx W.heap.size w7.heap.size w7 x1 223 #[v1]:=⟨hx1,leq9 h2 hg1,hx1.lt⟩
  have hx2:Bx W.heap.size w7.heap.size w7 x2 223 #[v2]:=⟨hx2,leq9 h2 hg2,hx2.lt⟩
  refine⟨_,rfl,hf7,(tru_3 ho hT hk hB7.bq hx1 hx2 (hv1.wide hlo1 hhi1) (hv2.wide hlo2 hhi2) (truS_left _ _ _ _ _ _) (truS_at _ _ _ _ _ _)).eq ?_⟩
  rw[e]
  exact truS_10 _ _ _ hk _ _ _ _ _ _ _ _ _ _
 have HS2:=hdq hs2
 rw[←hl3,←hl4]at hcall0
 rw[←hl5,←hl6]at hcall1
 have HC0:=hdq hcall0
 have HC1:=hdq hcall1
 have HB:=hdq hB
 have HALL:=hdq hall
 unfold bgBoxC at hw2
 have HW:=hdq hw2
 have HT2:=hdq hT2
 rw[←hl,←hl2]
 obtain⟨X0,hX0⟩:=nmq (truS C.n ps k0 a0 o0 t0)
 obtain⟨X1,hX1⟩:=nmq (truS C.n ps k1 a1 o1 t1)
 rw[←hX0]at HC0 HALL
 rw[←hX1]at HC1 HALL
 have HON:=hdq (slo2_on (g0:=slT C ps X0) (g1:=slT C ps X1) slT_on slT_on)
 have q1:(k==1)=false:=by simp;omega
 have q2:(k==2)=false:=by simp;omega
 have q9:(k==9)=false:=by simp;omega
 have qs:(k==10)=true∨(k==10)=false∧(k==11)=true:=by rcases hk with rfl|rfl<;>simp
 clear hs2 hcall0 hcall1 hB hall hw2 hT2 hS hbS hBW hT e hl hl2 hsm hpl hx hx2 hpg e0 e1 e2 e3 f0 f1 f2 f3 s1 s3 hl3 hl5 hbW h0 h1 hX0 hX1 s2 s4 hl4 hl6 hk
 rcases qs with q10|⟨q10,q11⟩
 all_goals
  go_enter Tryz.func107,Tryz.ntmps107
  go_wp2_with fail
  rw[←HW.out]
  refine wp_region_E (C11 W.heap.size (W.heap.size+1) bb oo (some ⟨C.P,0,none⟩) (some ⟨bb,oo,none⟩) l2 c2 (.int .u8 k0) (.slice A3 l3 c3) (.slice A4 l4 c4) (.int .i64 t0) (.int .u8 k1) (.slice A5 l5 c5) (.slice A6 l6 c6) (.int .i64 t1)) (fun i=>decide (i < 15)) (by kernel_rfl) (HS2.out _ (Fr.refl _ _).drew) (fun hHeld=>?_)
  refine wpE_pu 1 ?_
  try simp only[Act.put,List.setIfInBounds_toArray,List.set_cons_zero,List.set_cons_succ]
  refine wpE_pu 7 ?_
  try simp only[Act.put,List.setIfInBounds_toArray,List.set_cons_zero,List.set_cons_succ]
  refine wpE_take 0 (v:=?_) rfl (by kernel_rfl) (fun _ _ _ h=>h) hHeld (by rfl) ?_ ?_;rotate_left
  ·intro wz hSz;(try dsimp only[C11,CxS,CyS]at hSz);go_simp;try with_reducible rfl
  try simp only[Act.put,List.setIfInBounds_toArray,List.set_cons_zero,List.set_cons_succ]
  refine wpE_take 2 (v:=?_) rfl (by kernel_rfl) (fun _ _ _ h=>h) hHeld (by rfl) ?_ ?_;rotate_left
  ·intro wz hSz;(try dsimp only[C11,CxS,CyS]at hSz);go_simp;try with_reducible rfl
  try simp only[Act.put,List.setIfInBounds_toArray,List.set_cons_zero,List.set_cons_succ]
  refine wpE_take 6 (v:=?_) rfl (by kernel_rfl) (fun _ _ _ h=>h) hHeld (by rfl) ?_ ?_;rotate_left
  ·intro wz hSz;(try dsimp only[C11,CxS,CyS]at hSz);go_simp;try with_reducible rfl
  try simp only[Act.put,List.setIfInBounds_toArray,List.set_cons_zero,List.set_cons_succ]
  refine wpE_take 8 (v:=?_) rfl (by kernel_rfl) (fun _ _ _ h=>h) hHeld (by rfl) ?_ ?_;rotate_left
  ·intro wz hSz;(try dsimp only[C11,CxS,CyS]at hSz);go_simp;try with_reducible rfl
  try simp only[Act.put,List.setIfInBounds_toArray,List.set_cons_zero,List.set_cons_succ]
  refine wpE_pu 3 ?_
  try simp only[Act.put,List.setIfInBounds_toArray,List.set_cons_zero,List.set_cons_succ]
  refine wpE_pu 9 ?_
  try simp only[Act.put,List.setIfInBounds_toArray,List.set_cons_zero,List.set_cons_succ]
  refine wpE_take 4 (v:=?_) rfl (by kernel_rfl) (fun _ _ _ h=>h) hHeld (by rfl) ?_ ?_;rotate_left
  ·intro wz hSz;(try dsimp only[C11,CxS,CyS]at hSz);go_simp;try with_reducible rfl
  try simp only[Act.put,List.setIfInBounds_toArray,List.set_cons_zero,List.set_cons_succ]
  refine wpE_take 10 (v:=?_) rfl (by kernel_rfl) (fun _ _ _ h=>h) hHeld (by rfl) ?_ ?_;rotate_left
  ·intro wz hSz;(try dsimp only[C11,CxS,CyS]at hSz);go_simp;try with_reducible rfl
  try simp only[Act.put,List.setIfInBounds_toArray,List.set_cons_zero,List.set_cons_succ]
  refine wpE_manyA 4 [5,11,12,13] [33,39,6,7] vaTwo (fun o w=>ManyI w2.drew (PpG C (slo2 (slT C ps X0) (slT C ps X1)) (tyK 223)) o w) rfl (by decide) (by kernel_rfl) rfl (fun o w h=>HS2.out _ ((Fr.refl _ _).drew.trans h.fr)) (by kernel_rfl) rfl (fun o w p i hI hol hip hop hva=>?_) (fun o w hI hol hall=>?_) (ManyI.zero _ _)
  ·obtain⟨a,b,c,d,rfl⟩:=four_of hol
   rcases p with _|_|_|_|p
   ·simp at hip hop
    subst hip hop
    cases b<;>cases c<;>cases d<;>try exact absurd hva (by decide)
    all_goals
     simp only[putM,Act.put,List.setIfInBounds_toArray,List.set_cons_zero,List.set_cons_succ]
     refine wpOp_step (at_dropE rfl) (fun KK hK=>?_)
     go_simp
     go_at_call 107
     refine(HC0.out w ((HB.out.fr.trans (Fr.refl NoT w2).drew).trans hI.fr)).mono ?_
     rintro _ w5 ⟨v0,rfl,hf5,hv5⟩
     try dsimp only
     refine hK _ _ ?_
     exact⟨v0,by kernel_rfl,hI.put (p:=0) HT2.out hf5 (PpG.on HON.out) ⟨hv5,lrq _,leq9 HT2.out (leq9 hI.fr.size hf5.size)⟩⟩
   ·simp at hip hop
    subst hip hop
    cases a<;>cases c<;>cases d<;>try exact absurd hva (by decide)
    all_goals
     simp only[putM,Act.put,List.setIfInBounds_toArray,List.set_cons_zero,List.set_cons_succ]
     refine wpOp_step (at_dropE rfl) (fun KK hK=>?_)
     go_simp
     go_at_call 107
     refine(HC1.out w ((HB.out.fr.trans (Fr.refl NoT w2).drew).trans hI.fr)).mono ?_
     rintro _ w5 ⟨v0,rfl,hf5,hv5⟩
     try dsimp only
     refine hK _ _ ?_
     exact⟨v0,by kernel_rfl,hI.put (p:=1) HT2.out hf5 (PpG.on HON.out) ⟨hv5,lrq _,leq9 HT2.out (leq9 hI.fr.size hf5.size)⟩⟩
   ·simp at hip hop
    subst hip hop
    cases a<;>cases b<;>cases d<;>try exact absurd hva (by decide)
    all_goals
     simp only[putM,Act.put,List.setIfInBounds_toArray,List.set_cons_zero,List.set_cons_succ]
     refine wpOp_step (at_dropE rfl) (fun KK hK=>?_)
     go_simp
     refine hK _ _ ?_
     exact⟨_,by kernel_rfl,hI.lay (p:=2) HT2.out (PpG.on HON.out) (fun v lo hi w h=>h)⟩
   ·simp at hip hop
    subst hip hop
    cases a<;>cases b<;>cases c<;>try exact absurd hva (by decide)
    all_goals
     simp only[putM,Act.put,List.setIfInBounds_toArray,List.set_cons_zero,List.set_cons_succ]
     refine wpOp_step (at_dropE rfl) (fun KK hK=>?_)
     go_simp
     refine hK _ _ ?_
     exact⟨_,by kernel_rfl,hI.lay (p:=3) HT2.out (PpG.on HON.out) (fun v lo hi w h=>h)⟩
   ·simp at hip
  ·obtain⟨u,v,y1,y2,rfl⟩:=all_four hol hall
   obtain⟨gg,cps,hu⟩:∃gg cps,u= .func (.func gg) #[] cps:=by
    obtain⟨_,_,h9,_⟩:=hI.at_ (p:=0) rfl
    exact TruP.func h9.1
   obtain⟨gg',cps',hv⟩:∃gg cps,v= .func (.func gg) #[] cps:=by
    obtain⟨_,_,h9,_⟩:=hI.at_ (p:=1) rfl
    exact TruP.func h9.1
   obtain⟨g,rfl,hg,hgk⟩:=hI.place (p:=2) (ty:=223) (z:= .nilFunc) rfl (fun _ _ _ _ h=>h)
   obtain⟨g',rfl,hg',hgk'⟩:=hI.place (p:=3) (ty:=223) (z:= .nilFunc) rfl (fun _ _ _ _ h=>h)
   have hne:=hI.two (p:=2) (q:=3) (ty:=223) (z:= .nilFunc) (ty':=223) (z':= .nilFunc) (by decide) rfl rfl (fun _ _ _ _ h=>h) (fun _ _ _ _ h=>h)
   have h7:=hI.set (p:=2) (ty:=223) (z:= .nilFunc) HT2.out (PpG.on HON.out) rfl (fun _ _ _ _ h=>h) u
   have h8:=h7.set (p:=3) (ty:=223) (z:= .nilFunc) HT2.out (upP_on (PpG.on HON.out) _ _ _) rfl (fun _ _ _ _ h=>h) v
   obtain⟨lo1,hi1,hp1,hlo1,hhi1⟩:=h8.at_ (p:=0) rfl
   obtain⟨lo2,hi2,hp2,hlo2,hhi2⟩:=h8.at_ (p:=1) rfl
   have hp1:TruP C ps u X0 lo1 hi1 _:=hp1.1
   have hp2:TruP C ps v X1 lo2 hi2 _:=hp2.1
   have hk1:Bk ((w.setCell ⟨g,0,none⟩ u).setCell ⟨g',0,none⟩ v) g 223 #[u]:=Bk.far (by simpa using hgk.set_ 0 u) hne _
   have hk2:Bk ((w.setCell ⟨g,0,none⟩ u).setCell ⟨g',0,none⟩ v) g' 223 #[v]:=by simpa using (hgk'.far (p:=⟨g,0,none⟩) (Ne.symm hne) u).set_ 0 v
   have HE:=hdq (HALL.out _ g g' u v lo1 hi1 lo2 hi2 ((Fr.refl NoT w2).drew.trans h8.fr) hk1 hg hk2 hg' hp1 hlo1 hhi1 hp2 hlo2 hhi2)
   have HS14:=hdq (HS2.out _ ((Fr.refl NoT w2).drew.trans h7.fr))
   have hgc:=hgk.cell 0
   have hgf:=hgk.frozen 0
   have hgl:=hgk.lt
   have hdc:=hgk'.cell 0
   have hdf:=hgk'.frozen 0
   have hdl:=hgk'.lt
   have hne':=Ne.symm hne
   simp only[List.getElem?_toArray,List.getElem?_cons_succ,List.getElem?_cons_zero]at hgc hdc
   simp only[putM,Act.put,List.setIfInBounds_toArray,List.set_cons_zero,List.set_cons_succ]
   subst hu hv
   clear hI h7 h8 hp1 hp2 hlo1 hlo2 hhi1 hhi2 hgk hgk' hk1 hk2 hHeld hg hg' hall hol
   refine wpE_next 14 rfl (by kernel_rfl) (fun KK hK=>?_)
   go_simp
   refine hK _ _ (fun _ _=>HS14.out) ?_
   clear hK KK
   try simp only[Act.put,List.setIfInBounds_toArray,List.set_cons_zero,List.set_cons_succ]
   refine wpE_next 15 rfl (by kernel_rfl) (fun KK hK=>?_)
   go_simp
   refine hK _ _ (fun h=>absurd h (by decide)) ?_
   clear hK KK
   try simp only[Act.put,List.setIfInBounds_toArray,List.set_cons_zero,List.set_cons_succ]
   refine wpE_done (by kernel_rfl) ?_
   go_wp2_with fail
   go_ret
   exact HE.out
theorem cnd_cmp (C:BgC) (ps:List (List UInt8)) (ho:C.Ok) (k:Int) (hk3:3≤k) (hk8:k≤8) (args:Exs) (of_:Cds) (at_:Int) (k0 n0 m0 a0 t0 k1 n1 m1 a1 t1) (e:args= .cons k0 n0 m0 a0 t0 (.cons k1 n1 m1 a1 t1 .nil)) (h0:ExpC C ps k0 n0 m0 a0 t0) (h1:ExpC C ps k1 n1 m1 a1 t1):CndC C ps k args of_ at_:=by
 intro W S Z A A2 c c2 hT hpg hS hx hx2
 obtain⟨bb,oo,rfl,hat⟩:=hx.2.2 (by rw[e];simp[Exs.len])
 rw[e]at hat
 obtain⟨⟨hbS,_,_,hm0,_,e0,e1,e2,e4⟩,⟨A3,c3,e3,s1⟩,hat2⟩:=hat
 obtain⟨⟨_,_,_,hm1,_,f0,f1,f2,f4⟩,⟨A5,c5,f3,s3⟩,_⟩:=hat2
 obtain⟨l,hl⟩:=nmq args.len
 obtain⟨l2,hl2⟩:=nmq of_.len
 have hl20:1 < l:=by rw[hl,e];simp[Exs.len]
 have hl21:0 < l:=by omega
 have hl22:(1:Int) < (l:Int):=by omega
 have hl2m:l≤9223372036854775807:=by rw[hl];exact leq9 hx.1 hx.2.1.1
 obtain⟨l3,hl3⟩:=nmq a0.len
 obtain⟨l5,hl5⟩:=nmq a1.len
 rw[←hl3]at e3
 rw[←hl5]at f3
 obtain⟨w2,hw2⟩:=nmq (bgBoxC C W k (some ⟨bb,oo,none⟩) A2 l c l2 c2 at_)
 have hB:bgBxC C W w2 k (some ⟨bb,oo,none⟩) A2 l c l2 c2 at_:=by rw[hw2];exact boxC_at
 have hBW:C.B≤W.heap.size:=by have h1:=ho.br;have h2:=ho.rT;omega
 have hbW:bb < W.heap.size:=ltq (hS _ hbS) hBW
 have hT2:C.T≤w2.drew.heap.size:=leq9 hT hB.fr.size
 have hsm:∀w',Fr NoT W w'→SameS S W w':=fun w' hf=>hf.same fun b hb=>⟨ltq (hS b hb) hBW,id⟩
 have hpl:∀w',Fr NoT W w'→PgAt C w':=fun w' hf=>hpg.later ho (Later.of0 (lo:=0) (hi:=0) hf (Nat.zero_le _) hT)
 have hcall0:∀w',Fr NoT W w'→_:=fun w' hf=>h0 w' S Z A3 c3 (leq9 hT hf.size) (hpl w' hf) hS hm0 (s1.imp fun _ _ hx=>ExR.keep (hsm w' hf) hx)
 have hcall1:∀w',Fr NoT W w'→_:=fun w' hf=>h1 w' S Z A5 c5 (leq9 hT hf.size) (hpl w' hf) hS hm1 (s3.imp fun _ _ hx=>ExR.keep (hsm w' hf) hx)
 have hs2:∀w',Fr NoT w2 w'→CyS W.heap.size (W.heap.size+1) bb oo (some ⟨C.P,0,none⟩) (some ⟨bb,oo,none⟩) l c (.int .u8 k0) (.string n0) (.int .i64 m0) (.slice A3 l3 c3) (.int .i64 t0) (.int .u8 k1) (.string n1) (.int .i64 m1) (.slice A5 l5 c5) (.int .i64 t1) w':=fun w' hf=>
  have hf2:=hB.fr.trans hf
  ⟨⟨(hB.next hf).p.cell 0,(hB.next hf).q.cell 1,(hf2.cell hbW id).trans e0,(hf2.cell hbW id).trans e1,(hf2.cell hbW id).trans e2,(hf2.cell hbW id).trans e3,(hf2.cell hbW id).trans e4⟩,(hf2.cell hbW id).trans f0,(hf2.cell hbW id).trans f1,(hf2.cell hbW id).trans f2,(hf2.cell hbW id).trans f3,(hf2.cell hbW id).trans f4⟩
 have hall:∀w7 x1 x2 v1 v2 lo1 hi1 lo2 hi2,Fr NoT w2 w7→Bk w7 x1 278 #[v1]→w2.heap.size≤x1→Bk w7 x2 278 #[v2]→w2.heap.size≤x2→ValP C ps v1 (valH C.n ps k0 n0 m0 t0 a0) lo1 hi1 w7→w2.heap.size≤lo1→hi1≤w7.heap.size→ValP C ps v2 (valH C.n ps k1 n1 m1 t1 a1) lo2 hi2 w7→w2.heap.size≤lo2→hi2≤w7.heap.size→
   MkT C ps (truS C.n ps k args of_ at_) W (.returned (.func (.func 182) #[] #[.pointer (some ⟨W.heap.size,0,none⟩),.pointer (some ⟨W.heap.size+1,0,none⟩),.pointer (some ⟨x1,0,none⟩),.pointer (some ⟨x2,0,none⟩)])) w7:=by
  intro w7 x1 x2 v1 v2 lo1 hi1 lo2 hi2 hf0 hx1 hg1 hx2 hg2 hv1 hlo1 hhi1 hv2 hlo2 hhi2
  have hf7:=hB.fr.trans hf0
  have hB7:=hB.next hf0
  have h2:=hB.fr.size
  have hlo1:=leq9 h2 hlo1
  have hlo2:=leq9 h2 hlo2
  have hx1:Bx W.heap.size w7.heap.size w7 x1 278 #[v1]:=⟨hx1,leq9 h2 hg1,hx1.lt⟩
  have hx2:Bx W.heap.size w7.heap.size w7 x2 278 #[v2]:=⟨hx2,leq9 h2 hg2,hx2.lt⟩
  refine⟨_,rfl,hf7,(tru_4 ho hT (hpl _ hf7) hB7.bp hB7.bq hx1 hx2 (hv1.wide hlo1 hhi1) (hv2.wide hlo2 hhi2) (valH_at _ _ _ _ _ _ _) (valH_at _ _ _ _ _ _ _)).eq ?_⟩
  rw[e]
  exact truS_cmp _ _ _ hk3 hk8 _ _ _ _ _ _ _ _ _ _ _ _
 have HS2:=hdq hs2
 rw[←hl3]at hcall0
 rw[←hl5]at hcall1
 have HC0:=hdq hcall0
 have HC1:=hdq hcall1
 have HB:=hdq hB
 have HALL:=hdq hall
 unfold bgBoxC at hw2
 have HW:=hdq hw2
 have HT2:=hdq hT2
 rw[←hl,←hl2]
 obtain⟨X0,hX0⟩:=nmq (valH C.n ps k0 n0 m0 t0 a0)
 obtain⟨X1,hX1⟩:=nmq (valH C.n ps k1 n1 m1 t1 a1)
 rw[←hX0]at HC0 HALL
 rw[←hX1]at HC1 HALL
 have HON:=hdq (slo2_on (g0:=bgSlV C ps X0) (g1:=bgSlV C ps X1) slV_on slV_on)
 have q1:(k==1)=false:=by simp;omega
 have q2:(k==2)=false:=by simp;omega
 have q9:(k==9)=false:=by simp;omega
 have q10:(k==10)=false:=by simp;omega
 have q11:(k==11)=false:=by simp;omega
 clear hs2 hcall0 hcall1 hB hall hw2 hT2 hS hbS hBW hT e hl hl2 hsm hpl hx hx2 hpg e0 e1 e2 e3 f0 f1 f2 f3 s1 s3 hl3 hl5 hbW h0 h1 hX0 hX1 e4 f4 hm0 hm1 hk3 hk8
 go_enter Tryz.func107,Tryz.ntmps107
 go_wp2_with fail
 rw[←HW.out]
 refine wp_region_E (CyS W.heap.size (W.heap.size+1) bb oo (some ⟨C.P,0,none⟩) (some ⟨bb,oo,none⟩) l c (.int .u8 k0) (.string n0) (.int .i64 m0) (.slice A3 l3 c3) (.int .i64 t0) (.int .u8 k1) (.string n1) (.int .i64 m1) (.slice A5 l5 c5) (.int .i64 t1)) (fun i=>decide (i < 15)) (by kernel_rfl) (HS2.out _ (Fr.refl _ _).drew) (fun hHeld=>?_)
 refine wpE_pu 1 ?_
 try simp only[Act.put,List.setIfInBounds_toArray,List.set_cons_zero,List.set_cons_succ]
 refine wpE_pu 7 ?_
 try simp only[Act.put,List.setIfInBounds_toArray,List.set_cons_zero,List.set_cons_succ]
 refine wpE_take 0 (v:=?_) rfl (by kernel_rfl) (fun _ _ _ h=>h) hHeld (by rfl) ?_ ?_;rotate_left
 ·intro wz hSz;(try dsimp only[C11,CxS,CyS]at hSz);go_simp;try with_reducible rfl
 try simp only[Act.put,List.setIfInBounds_toArray,List.set_cons_zero,List.set_cons_succ]
 refine wpE_take 2 (v:=?_) rfl (by kernel_rfl) (fun _ _ _ h=>h) hHeld (by rfl) ?_ ?_;rotate_left
 ·intro wz hSz;(try dsimp only[C11,CxS,CyS]at hSz);go_simp;try with_reducible rfl
 try simp only[Act.put,List.setIfInBounds_toArray,List.set_cons_zero,List.set_cons_succ]
 refine wpE_take 6 (v:=?_) rfl (by kernel_rfl) (fun _ _ _ h=>h) hHeld (by rfl) ?_ ?_;rotate_left
 ·intro wz hSz;(try dsimp only[C11,CxS,CyS]at hSz);go_simp;try with_reducible rfl
 try simp only[Act.put,List.setIfInBounds_toArray,List.set_cons_zero,List.set_cons_succ]
 refine wpE_take 8 (v:=?_) rfl (by kernel_rfl) (fun _ _ _ h=>h) hHeld (by rfl) ?_ ?_;rotate_left
 ·intro wz hSz;(try dsimp only[C11,CxS,CyS]at hSz);go_simp;try with_reducible rfl
 try simp only[Act.put,List.setIfInBounds_toArray,List.set_cons_zero,List.set_cons_succ]
 refine wpE_pu 3 ?_
 try simp only[Act.put,List.setIfInBounds_toArray,List.set_cons_zero,List.set_cons_succ]
 refine wpE_pu 9 ?_
 try simp only[Act.put,List.setIfInBounds_toArray,List.set_cons_zero,List.set_cons_succ]
 refine wpE_take 4 (v:=?_) rfl (by kernel_rfl) (fun _ _ _ h=>h) hHeld (by rfl) ?_ ?_;rotate_left
 ·intro wz hSz;(try dsimp only[C11,CxS,CyS]at hSz);go_simp;try with_reducible rfl
 try simp only[Act.put,List.setIfInBounds_toArray,List.set_cons_zero,List.set_cons_succ]
 refine wpE_take 10 (v:=?_) rfl (by kernel_rfl) (fun _ _ _ h=>h) hHeld (by rfl) ?_ ?_;rotate_left
 ·intro wz hSz;(try dsimp only[C11,CxS,CyS]at hSz);go_simp;try with_reducible rfl
 try simp only[Act.put,List.setIfInBounds_toArray,List.set_cons_zero,List.set_cons_succ]
 refine wpE_manyA 4 [5,11,12,13] [46,52,8,9] vaTwo (fun o w=>ManyI w2.drew (PpG C (slo2 (bgSlV C ps X0) (bgSlV C ps X1)) (tyK 278)) o w) rfl (by decide) (by kernel_rfl) rfl (fun o w h=>HS2.out _ ((Fr.refl _ _).drew.trans h.fr)) (by kernel_rfl) rfl (fun o w p i hI hol hip hop hva=>?_) (fun o w hI hol hall=>?_) (ManyI.zero _ _)
 ·obtain⟨a,b,c,d,rfl⟩:=four_of hol
  rcases p with _|_|_|_|p
  ·simp at hip hop
   subst hip hop
   cases b<;>cases c<;>cases d<;>try exact absurd hva (by decide)
   all_goals
    simp only[putM,Act.put,List.setIfInBounds_toArray,List.set_cons_zero,List.set_cons_succ]
    refine wpOp_step (at_dropE rfl) (fun KK hK=>?_)
    go_simp
    go_at_call 175
    refine(HC0.out w ((HB.out.fr.trans (Fr.refl NoT w2).drew).trans hI.fr)).mono ?_
    rintro _ w5 ⟨v0,rfl,hf5,hv5⟩
    try dsimp only
    refine hK _ _ ?_
    exact⟨v0,by kernel_rfl,hI.put (p:=0) HT2.out hf5 (PpG.on HON.out) ⟨hv5,lrq _,leq9 HT2.out (leq9 hI.fr.size hf5.size)⟩⟩
  ·simp at hip hop
   subst hip hop
   cases a<;>cases c<;>cases d<;>try exact absurd hva (by decide)
   all_goals
    simp only[putM,Act.put,List.setIfInBounds_toArray,List.set_cons_zero,List.set_cons_succ]
    refine wpOp_step (at_dropE rfl) (fun KK hK=>?_)
    go_simp
    go_at_call 175
    refine(HC1.out w ((HB.out.fr.trans (Fr.refl NoT w2).drew).trans hI.fr)).mono ?_
    rintro _ w5 ⟨v0,rfl,hf5,hv5⟩
    try dsimp only
    refine hK _ _ ?_
    exact⟨v0,by kernel_rfl,hI.put (p:=1) HT2.out hf5 (PpG.on HON.out) ⟨hv5,lrq _,leq9 HT2.out (leq9 hI.fr.size hf5.size)⟩⟩
  ·simp at hip hop
   subst hip hop
   cases a<;>cases b<;>cases d<;>try exact absurd hva (by decide)
   all_goals
    simp only[putM,Act.put,List.setIfInBounds_toArray,List.set_cons_zero,List.set_cons_succ]
    refine wpOp_step (at_dropE rfl) (fun KK hK=>?_)
    go_simp
    refine hK _ _ ?_
    exact⟨_,by kernel_rfl,hI.lay (p:=2) HT2.out (PpG.on HON.out) (fun v lo hi w h=>h)⟩
  ·simp at hip hop
   subst hip hop
   cases a<;>cases b<;>cases c<;>try exact absurd hva (by decide)
   all_goals
    simp only[putM,Act.put,List.setIfInBounds_toArray,List.set_cons_zero,List.set_cons_succ]
    refine wpOp_step (at_dropE rfl) (fun KK hK=>?_)
    go_simp
    refine hK _ _ ?_
    exact⟨_,by kernel_rfl,hI.lay (p:=3) HT2.out (PpG.on HON.out) (fun v lo hi w h=>h)⟩
  ·simp at hip
 ·obtain⟨u,v,y1,y2,rfl⟩:=all_four hol hall
  obtain⟨gg,cps,hu⟩:∃gg cps,u= .func (.func gg) #[] cps:=by
   obtain⟨_,_,h9,_⟩:=hI.at_ (p:=0) rfl
   exact ValP.func h9.1
  obtain⟨gg',cps',hv⟩:∃gg cps,v= .func (.func gg) #[] cps:=by
   obtain⟨_,_,h9,_⟩:=hI.at_ (p:=1) rfl
   exact ValP.func h9.1
  obtain⟨g,rfl,hg,hgk⟩:=hI.place (p:=2) (ty:=278) (z:= .nilFunc) rfl (fun _ _ _ _ h=>h)
  obtain⟨g',rfl,hg',hgk'⟩:=hI.place (p:=3) (ty:=278) (z:= .nilFunc) rfl (fun _ _ _ _ h=>h)
  have hne:=hI.two (p:=2) (q:=3) (ty:=278) (z:= .nilFunc) (ty':=278) (z':= .nilFunc) (by decide) rfl rfl (fun _ _ _ _ h=>h) (fun _ _ _ _ h=>h)
  have h7:=hI.set (p:=2) (ty:=278) (z:= .nilFunc) HT2.out (PpG.on HON.out) rfl (fun _ _ _ _ h=>h) u
  have h8:=h7.set (p:=3) (ty:=278) (z:= .nilFunc) HT2.out (upP_on (PpG.on HON.out) _ _ _) rfl (fun _ _ _ _ h=>h) v
  obtain⟨lo1,hi1,hp1,hlo1,hhi1⟩:=h8.at_ (p:=0) rfl
  obtain⟨lo2,hi2,hp2,hlo2,hhi2⟩:=h8.at_ (p:=1) rfl
  have hp1:ValP C ps u X0 lo1 hi1 _:=hp1.1
  have hp2:ValP C ps v X1 lo2 hi2 _:=hp2.1
  have hk1:Bk ((w.setCell ⟨g,0,none⟩ u).setCell ⟨g',0,none⟩ v) g 278 #[u]:=Bk.far (by simpa using hgk.set_ 0 u) hne _
  have hk2:Bk ((w.setCell ⟨g,0,none⟩ u).setCell ⟨g',0,none⟩ v) g' 278 #[v]:=by simpa using (hgk'.far (p:=⟨g,0,none⟩) (Ne.symm hne) u).set_ 0 v
  have HE:=hdq (HALL.out _ g g' u v lo1 hi1 lo2 hi2 ((Fr.refl NoT w2).drew.trans h8.fr) hk1 hg hk2 hg' hp1 hlo1 hhi1 hp2 hlo2 hhi2)
  have HS14:=hdq (HS2.out _ ((Fr.refl NoT w2).drew.trans h7.fr))
  have hgc:=hgk.cell 0
  have hgf:=hgk.frozen 0
  have hgl:=hgk.lt
  have hdc:=hgk'.cell 0
  have hdf:=hgk'.frozen 0
  have hdl:=hgk'.lt
  have hne':=Ne.symm hne
  simp only[List.getElem?_toArray,List.getElem?_cons_succ,List.getElem?_cons_zero]at hgc hdc
  simp only[putM,Act.put,List.setIfInBounds_toArray,List.set_cons_zero,List.set_cons_succ]
  subst hu hv
  clear hI h7 h8 hp1 hp2 hlo1 hlo2 hhi1 hhi2 hgk hgk' hk1 hk2 hHeld hg hg' hall hol
  refine wpE_next 14 rfl (by kernel_rfl) (fun KK hK=>?_)
  go_simp
  refine hK _ _ (fun _ _=>HS14.out) ?_
  clear hK KK
  try simp only[Act.put,List.setIfInBounds_toArray,List.set_cons_zero,List.set_cons_succ]
  refine wpE_next 15 rfl (by kernel_rfl) (fun KK hK=>?_)
  go_simp
  refine hK _ _ (fun h=>absurd h (by decide)) ?_
  clear hK KK
  try simp only[Act.put,List.setIfInBounds_toArray,List.set_cons_zero,List.set_cons_succ]
  refine wpE_done (by kernel_rfl) ?_
  go_wp2_with fail
  go_ret
  exact HE.out
theorem cnd_one (C:BgC) (ps:List (List UInt8)) (ho:C.Ok) (k:Int) (args:Exs) (of_:Cds) (at_:Int) (hd:hdC k args of_) (hX:∀i k0 n0 m0 a0 t0 r0,Exs.drop i args= .cons k0 n0 m0 a0 t0 r0→ExpC C ps k0 n0 m0 a0 t0) (h:∀i k0 a0 o0 t0 r0,Cds.drop i of_= .cons k0 a0 o0 t0 r0→CndC C ps k0 a0 o0 t0):CndC C ps k args of_ at_:=by
 obtain⟨⟨h1,h11⟩,h9,h10,h3⟩:=hd
 by_cases k2:k≤2
 ·exact cnd_leaf ho args of_ (by omega)
 by_cases k8:k≤8
 ·have hl:=h3 (by omega) k8
  match args,hl with
  | .cons k0 n0 m0 a0 t0 (.cons k1 n1 m1 a1 t1 .nil),_=>exact cnd_cmp C ps ho k (by omega) k8 _ of_ at_ _ _ _ _ _ _ _ _ _ _ rfl (hX 0 _ _ _ _ _ _ rfl) (hX 1 _ _ _ _ _ _ rfl)
  | .nil,h=>simp[Exs.len]at h
  | .cons _ _ _ _ _ .nil,h=>simp[Exs.len]at h
  | .cons _ _ _ _ _ (.cons _ _ _ _ _ (.cons _ _ _ _ _ _)),h=>simp[Exs.len]at h
 by_cases k9:k=9
 ·subst k9
  have hl:=h9 rfl
  match of_,hl with
  | .cons k0 a0 o0 t0 .nil,_=>exact cnd_not C ps ho args _ at_ _ _ _ _ rfl (h 0 _ _ _ _ _ rfl)
  | .nil,h=>simp[Cds.len]at h
  | .cons _ _ _ _ (.cons _ _ _ _ _),h=>simp[Cds.len]at h
 ·have hk:k=10∨k=11:=by omega
  have hl:=h10 hk
  match of_,hl with
  | .cons k0 a0 o0 t0 (.cons k1 a1 o1 t1 .nil),_=>exact cnd_two C ps ho k hk args _ at_ _ _ _ _ _ _ _ _ rfl (h 0 _ _ _ _ _ rfl) (h 1 _ _ _ _ _ rfl)
  | .nil,h=>simp[Cds.len]at h
  | .cons _ _ _ _ .nil,h=>simp[Cds.len]at h
  | .cons _ _ _ _ (.cons _ _ _ _ (.cons _ _ _ _ _)),h=>simp[Cds.len]at h
theorem cnds_all (C:BgC) (ps:List (List UInt8)) (ho:C.Ok):∀xs:Cds,wfCb C.n ps xs→∀i k a o t r,Cds.drop i xs= .cons k a o t r→CndC C ps k a o t
 | .nil,_,i,_,_,_,_,_,h=>by cases i<;>simp[Cds.drop]at h
 | .cons k args of_ at_ r,hw,0,k0,a0,o0,t0,r0,h=>by
  simp only[Cds.drop,Cds.cons.injEq]at h
  obtain⟨rfl,rfl,rfl,rfl,_⟩:=h
  exact cnd_one C ps ho _ _ _ _ hw.1 (exps_all C ps ho _ hw.2.1) (cnds_all C ps ho _ hw.2.2.1)
 | .cons k args of_ at_ r,hw,i+1,k0,a0,o0,t0,r0,h=>by
  simp only[Cds.drop]at h
  exact cnds_all C ps ho r hw.2.2.2 i _ _ _ _ _ h
end Go.Proofs.YtfomomaomggpbaaGreatDoor
