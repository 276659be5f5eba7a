/-
  law10: PrintDoes. Printed by wip/gen_tp/mklaw.py and wip/gen_in/reg.py.
-/
import Derived.Test.YtmopichdofgndaaGreatDoorTpTree
import Derived.Test.YtmopichdofgndaaGreatDoorPnRoom
import Derived.Test.YtmopichdofgndaaGreatDoorJnPb
import Derived.Test.YtmopichdofgndaaGreatDoorSoftW
set_option linter.unusedVariables false
set_option linter.unusedSimpArgs false
set_option maxHeartbeats 6400000
set_option maxRecDepth 100000
namespace Go.Proofs.YtmopichdofgndaaGreatDoor
open Go.RowKit Go.Shelf

theorem puts_eq:∀(ts:Tx) (o:ByteArray) (s:List UInt8×Bool),(∀t∈ts,t≠ [])→o.data.toList=s.1→s.2=(decide (0 < s.1.length)&&isWd (s.1.getLastD 0))→(putsA o ts).data.toList =(putsT s ts).1
 | [],o,s,_,h,_=>h
 |t::r,o,s,hne,h,hf=>by
  rw[putsA_cons]
  have htl:(ba t).data.toList =t:=by unfold ba;rw[List.toList_toArray]
  have ht:t≠ []:=hne t (by simp)
  have h1:(putA o (ba t)).data.toList =(putT s t).1 :=by
   unfold putA putT glueB
   rw[htl,h,hf]
   have:decide (0 < t.length)=true:=by simpa using List.length_pos_iff.2 ht
   rw[this,Bool.true_and,Bool.and_assoc]
   split
   ·simp[htl,h]
   ·simp[htl,h]
  refine puts_eq r _ (putT s t) (fun x hx=>hne x (by simp[hx])) h1 ?_
  unfold putT
  simp only
  have hl:(s.1++(if(s.2&&isWd (t.headD 0))=true then 32::t else t)).getLastD 0=t.getLastD 0:=by
   cases t with
   |nil=>exact absurd rfl ht
   |cons a q=>
    have e:∀l:List UInt8,(l++a::q).getLastD 0=(a::q).getLastD 0:=fun l=>by
     rw[List.getLastD_eq_getLast?,List.getLastD_eq_getLast?,List.getLast?_append]
     cases hb:(a::q).getLast? with
     |none=>exact absurd (List.getLast?_eq_none_iff.1 hb) (by simp)
     |some x=>rfl
    split
    ·rw[show s.1++32::a::q=(s.1++ [32])++a::q from by simp]
     exact e _
    ·exact e _
  have hp:decide (0 < (s.1++(if(s.2&&isWd (t.headD 0))=true then 32::t else t)).length)=true:=by
   have:=List.length_pos_iff.2 ht
   simp only[List.length_append,decide_eq_true_eq]
   split
   ·simp only[List.length_cons]
    omega
   ·omega
  rw[hl,hp,Bool.true_and]
theorem chn_ne:∀ {ts:Tx},Chn ts→∀t∈ts,t≠ []
 | [],_,t,h=>by simp at h
 |u::r,h,t,hm=>by
  rcases List.mem_cons.1 hm with rfl|hm
  ·exact h.1.ne
  ·exact chn_ne h.2.2 t hm
theorem text_eq {t:Tre} (h:okTr t=true) (hr:RgT t):putsA ⟨#[]⟩ (treT t)=⟨(printB t).toArray⟩:=by
 have h1:=puts_eq (treT t) ⟨#[]⟩ ([],false) (chn_ne (gT h hr).1.chn) rfl rfl
 have h2:∀a b:ByteArray,a.data.toList=b.data.toList→a=b:=fun a b h=>by
  cases a with
  |mk a=>
   cases b with
   |mk b=>
    have:a=b:=Array.toList_inj.1 h
    rw[this]
 exact h2 _ _ (h1.trans (by unfold printB;rw[List.toList_toArray]))
theorem tsame_any (t u:Tre) (w:World) (S S':Nat→Prop) (Z Z':Prop) (Av Aa Ap Am Bv Ba Bp Bm:Option Addr) (cv ca cp cm dv da dp dm:Nat) (hS:∀b,S b→b < w.heap.size) (hS':∀b,S' b→b < w.heap.size)
  (hx:TrR w S Z t Av Aa Ap Am cv ca cp cm) (hy:TrR w S' Z' u Bv Ba Bp Bm dv da dp dm):
  Calls Tryz.prog 18 #[trV t Av Aa Ap Am cv ca cp cm,trV u Bv Ba Bp Bm dv da dp dm] w (EqPost (eqT false t u) w):=by
 have HC:=hdq (fun(W:World) (h:Fr NoT w W)=>ralikeT_any t u W S S' Z Z' Av Aa Ap Am Bv Ba Bp Bm cv ca cp cm dv da dp dm (fun b hb=>ltq (hS b hb) h.size) (fun b hb=>ltq (hS' b hb) h.size) (hx.keep (h.same fun b hb=>⟨hS b hb,id⟩)) (hy.keep (h.same fun b hb=>⟨hS' b hb,id⟩)))
 clear hx hy hS hS'
 unfold trV at*
 go_enter Tryz.func18,Tryz.ntmps18
 go_wp2_with fail
 refine(HC.out _ (((Fr.refl _ _).alloc _).alloc _)).mono ?_
 rintro _ y ⟨rfl,hy⟩
 have HB:=hdq ((((Fr.refl NoT w).alloc _).alloc _).trans hy)
 clear hy
 go_wp2_with fail
 go_ret
 exact⟨rfl,HB.out⟩
def PdS (g1 g2 g3 g4:Nat) (a0 a1 a2 a3 b0 b1 b2 b3 c0 c1 c2 c3 d0 d1 d2 d3:Value) (W:World):Prop:=
 W.cell? ⟨g1,0,none⟩=some a0∧W.cell? ⟨g1,1,none⟩=some a1∧W.cell? ⟨g1,2,none⟩=some a2∧W.cell? ⟨g1,3,none⟩=some a3∧
 W.cell? ⟨g2,0,none⟩=some b0∧W.cell? ⟨g2,1,none⟩=some b1∧W.cell? ⟨g2,2,none⟩=some b2∧W.cell? ⟨g2,3,none⟩=some b3∧
 W.cell? ⟨g3,0,none⟩=some c0∧W.cell? ⟨g3,1,none⟩=some c1∧W.cell? ⟨g3,2,none⟩=some c2∧W.cell? ⟨g3,3,none⟩=some c3∧
 W.cell? ⟨g4,0,none⟩=some d0∧W.cell? ⟨g4,1,none⟩=some d1∧W.cell? ⟨g4,2,none⟩=some d2∧W.cell? ⟨g4,3,none⟩=some d3
theorem prdoes_any (t u:Tre) (w:World) (S:Nat→Prop) (Z:Prop) (Av Aa Ap Am:Option Addr) (cv ca cp cm:Nat) (Bv Ba Bp Bm:Option Addr) (dv da dp dm:Nat) (he:TwEnv w) (hS:∀b,S b→b < w.heap.size) (szt:SzT t) (szu:SzT u) (hx:TrR w S Z t Av Aa Ap Am cv ca cp cm) (hy:TrR w S Z u Bv Ba Bp Bm dv da dp dm) (mt:mT t≤1048576) (mu:mT u≤1048576):
  Calls Tryz.prog 4 #[trV t Av Aa Ap Am cv ca cp cm,trV u Bv Ba Bp Bm dv da dp dm] w (TruePost w):=by
 have hSW:=fun(W:World) (hf:Fr NoT w W) b (hb:S b)=>ltq (hS b hb) hf.size
 have kx:=fun(W:World) (hf:Fr NoT w W)=>hx.keep (hf.same fun b hb=>⟨hS b hb,id⟩)
 have ky:=fun(W:World) (hf:Fr NoT w W)=>hy.keep (hf.same fun b hb=>⟨hS b hb,id⟩)
 have room:okTr t=true→sumT (treT t)≤140737488355328:=fun h=>by
  have:=treT_room h (rgT_of hx)
  omega
 have g1:=fun(W:World) (hf:Fr NoT w W)=>tgreat_any t W S Z Av Aa Ap Am cv ca cp cm (hSW W hf) (kx W hf)
 have g2:=fun(W:World) (hf:Fr NoT w W)=>tgreat_any u W S Z Bv Ba Bp Bm dv da dp dm (hSW W hf) (ky W hf)
 obtain⟨P,hP⟩:∃P:ByteArray,P=if okTr t then⟨(printB t).toArray⟩else⟨#[]⟩:=⟨_,rfl⟩
 obtain⟨E,hE⟩:∃E:Int,E=if okTr t then 0 else 8:=⟨_,rfl⟩
 have p1:∀(W:World) (hf:Fr NoT w W),Calls Tryz.prog 12 #[trV t Av Aa Ap Am cv ca cp cm] W fun e w'=>e= .returned (.tuple #[.string P,.int .i64 E])∧Fr NoT W w':=fun W hf=>by
  cases h:okTr t
  ·have:=print_bad t W S Z Av Aa Ap Am cv ca cp cm (he.keep hf.plain).sp (hSW W hf) szt (kx W hf) h
   rw[hP,hE,h]
   exact this
  ·have:=print_ok t W S Z Av Aa Ap Am cv ca cp cm (he.keep hf.plain).sp (he.keep hf.plain).tab (hSW W hf) szt (kx W hf) h (room h)
   rw[hP,hE,h]
   exact this
 have p2:∀(W:World) (hf:Fr NoT w W),Calls Tryz.prog 13 #[trV t Av Aa Ap Am cv ca cp cm] W fun e w'=>e= .returned (.tuple #[.string P,.int .i64 E])∧Fr NoT W w':=fun W hf=>by
  have:=tprint_any t W S Z Av Aa Ap Am cv ca cp cm (he.keep hf.plain) (hSW W hf) szt (kx W hf) room
  rw[←hE]at this
  have e:(if okTr t then putsA ⟨#[]⟩ (treT t)else⟨#[]⟩)=P:=by
   rw[hP]
   cases h:okTr t
   ·rfl
   ·exact text_eq h (rgT_of hx)
  rw[e]at this
  exact this
 have c1:=fun(W:World) (hf:Fr NoT w W)=>pcheck_any t W S Z Av Aa Ap Am cv ca cp cm (he.keep hf.plain).sp (hSW W hf) szt (kx W hf)
 have c2:=fun(W:World) (hf:Fr NoT w W)=>tcheck_any t W S Z Av Aa Ap Am cv ca cp cm (hSW W hf) szt (kx W hf)
 rw[←hE]at c1 c2
 have b1:=fun(W:World) (hf:Fr NoT w W)=>bare_any t W S Z Av Aa Ap Am cv ca cp cm (hSW W hf) (kx W hf)
 have b2:=fun(W:World) (hf:Fr NoT w W)=>pbare_any t W S Z Av Aa Ap Am cv ca cp cm (hSW W hf) (kx W hf)
 have s1:=fun(W:World) (hf:Fr NoT w W)=>psame_any t u W S S Z Z Av Aa Ap Am Bv Ba Bp Bm cv ca cp cm dv da dp dm (hSW W hf) (hSW W hf) (kx W hf) (ky W hf)
 have s2:=fun(W:World) (hf:Fr NoT w W)=>tsame_any t u W S S Z Z Av Aa Ap Am Bv Ba Bp Bm cv ca cp cm dv da dp dm (hSW W hf) (hSW W hf) (kx W hf) (ky W hf)
 have h5:=fun(W:World) (S1 S2:Nat→Prop) (Z1 Z2:Prop) (Bv Ba Bp Bm Cv Ca Cp Cm:Option Addr) (dv da dp dm ev ea ep em:Nat) (k1:∀b,S1 b→b < W.heap.size) (k2:∀b,S2 b→b < W.heap.size) (k3:TrR W S1 Z1 t.bare Bv Ba Bp Bm dv da dp dm) (k4:TrR W S2 Z2 t.bare Cv Ca Cp Cm ev ea ep em)=>
  rsameT_any t.bare t.bare W S1 S2 Z1 Z2 Bv Ba Bp Bm Cv Ca Cp Cm dv da dp dm ev ea ep em k1 k2 k3 k4
 have h6:=fun(W:World) (hf:Below w.heap.size w W) (S':Nat→Prop) (Z':Prop) (Bv Ba Bp Bm:Option Addr) (dv da dp dm:Nat) (hs:∀b,S' b→b < W.heap.size) (hb:TrR W S' Z' t.bare Bv Ba Bp Bm dv da dp dm)=>
  tsame_any t.bare t W S' S Z' Z Bv Ba Bp Bm Av Aa Ap Am dv da dp dm cv ca cp cm hs (fun b h=>ltq (hS b h) hf.size) hb (hx.keep (SameS.of hf hS))
 rw[eqT_alike (bareT_bare t)]at h6
 rw[eqT_refl]at h5
 obtain⟨q,hq⟩:=nmq (eqT false t u)
 rw[←hq]at s1 s2
 unfold BaP at b1
 unfold PbP at b2
 unfold ErrI at c1
 unfold trV at g1 g2 p1 p2 c1 c2 b1 b2 s1 s2 h5 h6 ⊢
 obtain⟨n1,hn1⟩:=nmq t.vars.length
 obtain⟨n2,hn2⟩:=nmq t.arrays.length
 obtain⟨n3,hn3⟩:=nmq t.procs.length
 obtain⟨n4,hn4⟩:=nmq t.main.len
 obtain⟨m1,hm1⟩:=nmq u.vars.length
 obtain⟨m2,hm2⟩:=nmq u.arrays.length
 obtain⟨m3,hm3⟩:=nmq u.procs.length
 obtain⟨m4,hm4⟩:=nmq u.main.len
 obtain⟨u1,hu1⟩:=nmq t.bare.vars.length
 obtain⟨u2,hu2⟩:=nmq t.bare.arrays.length
 obtain⟨u3,hu3⟩:=nmq t.bare.procs.length
 obtain⟨u4,hu4⟩:=nmq t.bare.main.len
 rw[←hn1,←hn2,←hn3,←hn4]at g1 p1 p2 c1 c2 b1 b2 s1 s2 h6 ⊢
 rw[←hm1,←hm2,←hm3,←hm4]at g2 s1 s2 ⊢
 rw[←hu1,←hu2,←hu3,←hu4]at b1 b2 h5 h6
 have kk:=bk_two9 w #[.slice Av n1 cv,.slice Aa n2 ca,.slice Ap n3 cp,.slice Am n4 cm] #[.slice Bv m1 dv,.slice Ba m2 da,.slice Bp m3 dp,.slice Bm m4 dm] 27 27
 obtain⟨w1,hw1⟩:=nmq ((w.alloc (.cells #[.slice Av n1 cv,.slice Aa n2 ca,.slice Ap n3 cp,.slice Am n4 cm] 27)).alloc (.cells #[.slice Bv m1 dv,.slice Ba m2 da,.slice Bp m3 dp,.slice Bm m4 dm] 27))
 rw[←hw1]at kk
 have hf1:Fr NoT w w1:=by rw[hw1];exact((Fr.refl _ _).alloc _).alloc _
 have HF1:=hdq hf1
 have HKA:=hdq (show ∀W,Fr NoT w1 W→Bk W w.heap.size 27 #[.slice Av n1 cv,.slice Aa n2 ca,.slice Ap n3 cp,.slice Am n4 cm]from fun W hf=>kk.1.fr0 hf)
 have HKB:=hdq (show ∀W,Fr NoT w1 W→Bk W (w.heap.size+1) 27 #[.slice Bv m1 dv,.slice Ba m2 da,.slice Bp m3 dp,.slice Bm m4 dm]from fun W hf=>kk.2.fr0 hf)
 have HW1:=hdq hw1
 have G1:=hdq g1
 have G2:=hdq g2
 have P1:=hdq p1
 have P2:=hdq p2
 have C1:=hdq c1
 have C2:=hdq c2
 have B1:=hdq b1
 have B2:=hdq b2
 have S1:=hdq s1
 have S2:=hdq s2
 have H5:=hdq h5
 have H6:=hdq h6
 have HU:=hdq hu4
 clear hSW kx ky room g1 g2 hP hE p1 p2 c1 c2 b1 b2 s1 s2 h5 h6 hq hn1 hn2 hn3 hn4 hm1 hm2 hm3 hm4 hu1 hu2 hu3 hu4 kk hw1 hf1 he hS szt szu hx hy mt mu
 go_enter Tryz.func4,Tryz.ntmps4
 go_wp2_with fail
 rw[←HW1.out]
 refine(G1.out _ HF1.out).mono ?_
 rintro _ w2 ⟨b0,rfl,hf2⟩
 have HF2:=hdq hf2
 clear hf2
 obtain⟨x0,x1,x2,x3,hl1⟩:=bk4 (HKA.out _ HF2.out)
 obtain⟨y0,y1,y2,y3,hl2⟩:=bk4 (HKB.out _ HF2.out)
 cases b0
 rotate_left
 ·go_wp2_with fail
  go_ret
  exact⟨rfl,(HF1.out.trans HF2.out).plain⟩
 go_wp2_with fail
 refine(G2.out _ (HF1.out.trans HF2.out)).mono ?_
 rintro _ w3 ⟨b0,rfl,hf3⟩
 have HF3:=hdq (HF2.out.trans hf3)
 clear hf3 x0 x1 x2 x3 hl1 y0 y1 y2 y3 hl2
 obtain⟨x0,x1,x2,x3,hl1⟩:=bk4 (HKA.out _ HF3.out)
 cases b0
 rotate_left
 ·go_wp2_with fail
  go_ret
  exact⟨rfl,(HF1.out.trans HF3.out).plain⟩
 go_wp2_with fail
 refine(P1.out _ (HF1.out.trans HF3.out)).mono ?_
 rintro _ w4 ⟨rfl,hf4⟩
 have HF4:=hdq (HF3.out.trans hf4)
 clear hf4 x0 x1 x2 x3 hl1
 obtain⟨x0,x1,x2,x3,hl1⟩:=bk4 (HKA.out _ HF4.out)
 go_wp2_with fail
 refine(P2.out _ (HF1.out.trans HF4.out)).mono ?_
 rintro _ w45 ⟨rfl,hf4⟩
 have HF45:=hdq (HF4.out.trans hf4)
 clear hf4 x0 x1 x2 x3 hl1
 obtain⟨x0,x1,x2,x3,hl1⟩:=bk4 (HKA.out _ HF45.out)
 go_wp2_with fail
 refine(B1.out _ (HF1.out.trans HF45.out)).mono ?_
 rintro _ w47 ⟨Cv,Ca,Cp,Cm,ev,ea,ep,em,rfl,htr,hf3⟩
 obtain⟨w5,hw5⟩:=nmq (w47.alloc (.cells #[.slice Cv u1 ev,.slice Ca u2 ea,.slice Cp u3 ep,.slice Cm u4 em] 27))
 have hk5:Bk w5 w47.heap.size 27 #[.slice Cv u1 ev,.slice Ca u2 ea,.slice Cp u3 ep,.slice Cm u4 em]:=by rw[hw5];exact Bk.new _ _ _
 have hf5:Fr NoT w47 w5:=by rw[hw5];exact(Fr.refl _ _).alloc _
 have HT:=hdq (fun(W:World) (hf:Below w5.heap.size w5 W)=>htr.keep (SameS.trans (hf5.same fun b hb=>⟨hb.2,id⟩) (SameS.of hf fun b hb=>ltq hb.2 hf5.size)))
 have HTS:=hdq (fun(W:World) (hf:Below w5.heap.size w5 W) b (hb:New w45.heap.size w47 b)=>ltq (ltq hb.2 hf5.size) hf.size)
 have HK5:=hdq hk5
 have HF47:=hdq (HF45.out.trans hf3)
 have HF5:=hdq ((HF45.out.trans hf3).trans hf5)
 have HW5:=hdq hw5
 have HL5:=hdq (show w47.heap.size < w5.heap.size from by rw[hw5];simp)
 clear htr hf3 hk5 hf5 hw5 x0 x1 x2 x3 hl1
 obtain⟨x0,x1,x2,x3,hl1⟩:=bk4 (HKA.out _ HF47.out)
 go_wp2_with fail
 rw[←HW5.out]
 refine(B2.out _ (HF1.out.trans HF5.out)).mono ?_
 rintro _ w6 ⟨Dv,Da,Dp,Dm,fv,fa,fp,fm,rfl,hty,hf6⟩
 obtain⟨w7,hw7⟩:=nmq (w6.alloc (.cells #[.slice Dv u1 fv,.slice Da u2 fa,.slice Dp u3 fp,.slice Dm u4 fm] 27))
 have hk7:Bk w7 w6.heap.size 27 #[.slice Dv u1 fv,.slice Da u2 fa,.slice Dp u3 fp,.slice Dm u4 fm]:=by rw[hw7];exact Bk.new _ _ _
 have hf7:Fr NoT w6 w7:=by rw[hw7];exact(Fr.refl _ _).alloc _
 have HY:=hdq (fun(W:World) (hf:Fr NoT w7 W)=>hty.keep ((hf7.trans hf).same fun b hb=>⟨hb.2,id⟩))
 have HYS:=hdq (fun(W:World) (hf:Fr NoT w7 W) b (hb:New w5.heap.size w6 b)=>ltq hb.2 (hf7.trans hf).size)
 have HK7:=hdq hk7
 have HF57:=hdq (hf6.trans hf7)
 have HW7:=hdq hw7
 have HL67:=hdq (show w6.heap.size < w7.heap.size from by rw[hw7];simp)
 have HL56:=hdq hf6.size
 have HPS:=hdq (show ∀W,Fr NoT w7 W→PdS w.heap.size (w.heap.size+1) w6.heap.size w47.heap.size (.slice Av n1 cv) (.slice Aa n2 ca) (.slice Ap n3 cp) (.slice Am n4 cm) (.slice Bv m1 dv) (.slice Ba m2 da) (.slice Bp m3 dp) (.slice Bm m4 dm) (.slice Dv u1 fv) (.slice Da u2 fa) (.slice Dp u3 fp) (.slice Dm u4 fm) (.slice Cv u1 ev) (.slice Ca u2 ea) (.slice Cp u3 ep) (.slice Cm u4 em) W from fun W hf=>
  have h1:=HKA.out W ((HF5.out.trans HF57.out).trans hf)
  have h2:=HKB.out W ((HF5.out.trans HF57.out).trans hf)
  have h3:=HK7.out.fr0 hf
  have h4:=HK5.out.fr0 (HF57.out.trans hf)
  ⟨h1.cell 0,h1.cell 1,h1.cell 2,h1.cell 3,h2.cell 0,h2.cell 1,h2.cell 2,h2.cell 3,h3.cell 0,h3.cell 1,h3.cell 2,h3.cell 3,h4.cell 0,h4.cell 1,h4.cell 2,h4.cell 3⟩)
 have HFA:=hdq ((HF1.out.trans HF5.out).trans HF57.out)
 clear hty hf6 hk7 hf7 hw7 x0 x1 x2 x3 hl1
 go_wp2_with fail
 rw[←HW7.out]
 refine wp_region_E (PdS w.heap.size (w.heap.size+1) w6.heap.size w47.heap.size (.slice Av n1 cv) (.slice Aa n2 ca) (.slice Ap n3 cp) (.slice Am n4 cm) (.slice Bv m1 dv) (.slice Ba m2 da) (.slice Bp m3 dp) (.slice Bm m4 dm) (.slice Dv u1 fv) (.slice Da u2 fa) (.slice Dp u3 fp) (.slice Dm u4 fm) (.slice Cv u1 ev) (.slice Ca u2 ea) (.slice Cp u3 ep) (.slice Cm u4 em)) (fun _=>true) (by kernel_rfl) (HPS.out _ (Fr.refl NoT w7).drew) (fun hHeld=>?_)
 refine wpE_take 0 (v:=?_) rfl (by kernel_rfl) (fun _ _ _ h=>h) hHeld (by rfl) ?_ ?_;rotate_left
 ·intro wz hSz;(try dsimp only[PdS]at hSz);go_simp;try with_reducible rfl
 try simp only[putsL]
 refine wpE_take 2 (v:=?_) rfl (by kernel_rfl) (fun _ _ _ h=>h) hHeld (by rfl) ?_ ?_;rotate_left
 ·intro wz hSz;(try dsimp only[PdS]at hSz);go_simp;try with_reducible rfl
 try simp only[putsL]
 refine wpE_next 1 rfl (by kernel_rfl) (fun KK hK=>?_)
 go_simp
 go_at_call 15
 refine(C1.out _ (HFA.out.trans (Fr.refl NoT w7).drew)).mono ?_
 rintro _ z1 ⟨rfl,hz1⟩
 have HZ1:=hdq ((Fr.refl NoT w7).drew.trans hz1)
 try dsimp only
 refine hK _ _ (fun _ _=>HPS.out _ HZ1.out) ?_
 clear hK KK hz1
 try simp only[putsL]
 refine wpE_next 3 rfl (by kernel_rfl) (fun KK hK=>?_)
 go_simp
 go_at_call 16
 refine(C2.out _ (HFA.out.trans HZ1.out)).mono ?_
 rintro _ z2 ⟨rfl,hz2⟩
 have HZ2:=hdq (HZ1.out.trans hz2)
 try dsimp only
 refine hK _ _ (fun _ _=>HPS.out _ HZ2.out) ?_
 clear hK KK hz2 hHeld
 have hHeld:=HPS.out _ HZ2.out
 try simp only[putsL]
 refine wpE_pu 4 ?_
 try simp only[putsL]
 refine wpE_pu 5 ?_
 try simp only[putsL]
 refine wpE_pu 6 ?_
 try simp only[putsL]
 refine wpE_pu 7 ?_
 try simp only[putsL]
 refine wpE_pu 8 ?_
 try simp only[putsL]
 refine wpE_pu 9 ?_
 try simp only[putsL]
 refine wpE_pu 10 ?_
 try simp only[putsL]
 refine wpE_pu 11 ?_
 try simp only[putsL]
 refine wpE_pu 12 ?_
 try simp only[putsL]
 refine wpE_pu 13 ?_
 try simp only[putsL]
 refine wpE_pu 14 ?_
 try simp only[putsL]
 refine wpE_pu 15 ?_
 try simp only[putsL]
 refine wpE_take 16 (v:=?_) rfl (by kernel_rfl) (fun _ _ _ h=>h) hHeld (by rfl) ?_ ?_;rotate_left
 ·intro wz hSz;(try dsimp only[PdS]at hSz);go_simp;try with_reducible rfl
 try simp only[putsL]
 refine wpE_take 17 (v:=?_) rfl (by kernel_rfl) (fun _ _ _ h=>h) hHeld (by rfl) ?_ ?_;rotate_left
 ·intro wz hSz;(try dsimp only[PdS]at hSz);go_simp;try with_reducible rfl
 try simp only[putsL]
 refine wpE_take 19 (v:=?_) rfl (by kernel_rfl) (fun _ _ _ h=>h) hHeld (by rfl) ?_ ?_;rotate_left
 ·intro wz hSz;(try dsimp only[PdS]at hSz);go_simp;try with_reducible rfl
 try simp only[putsL]
 refine wpE_take 20 (v:=?_) rfl (by kernel_rfl) (fun _ _ _ h=>h) hHeld (by rfl) ?_ ?_;rotate_left
 ·intro wz hSz;(try dsimp only[PdS]at hSz);go_simp;try with_reducible rfl
 try simp only[putsL]
 refine wpE_next 18 rfl (by kernel_rfl) (fun KK hK=>?_)
 go_simp
 go_at_call 17
 refine(S1.out _ (HFA.out.trans HZ2.out)).mono ?_
 rintro _ z3 ⟨rfl,hz3⟩
 have HZ3:=hdq (HZ2.out.trans hz3)
 try dsimp only
 refine hK _ _ (fun _ _=>HPS.out _ HZ3.out) ?_
 clear hK KK hz3
 try simp only[putsL]
 refine wpE_next 21 rfl (by kernel_rfl) (fun KK hK=>?_)
 go_simp
 go_at_call 18
 refine(S2.out _ (HFA.out.trans HZ3.out)).mono ?_
 rintro _ z4 ⟨rfl,hz4⟩
 have HZ4:=hdq (HZ3.out.trans hz4)
 try dsimp only
 refine hK _ _ (fun _ _=>HPS.out _ HZ4.out) ?_
 clear hK KK hz4 hHeld
 have hHeld:=HPS.out _ HZ4.out
 try simp only[putsL]
 refine wpE_pu 22 ?_
 try simp only[putsL]
 refine wpE_pu 23 ?_
 try simp only[putsL]
 refine wpE_pu 24 ?_
 try simp only[putsL]
 refine wpE_take 25 (v:=?_) rfl (by kernel_rfl) (fun _ _ _ h=>h) hHeld (by rfl) ?_ ?_;rotate_left
 ·intro wz hSz;(try dsimp only[PdS]at hSz);go_simp;try with_reducible rfl
 try simp only[putsL]
 refine wpE_take 26 (v:=?_) rfl (by kernel_rfl) (fun _ _ _ h=>h) hHeld (by rfl) ?_ ?_;rotate_left
 ·intro wz hSz;(try dsimp only[PdS]at hSz);go_simp;try with_reducible rfl
 try simp only[putsL]
 refine wpE_next 27 rfl (by kernel_rfl) (fun KK hK=>?_)
 go_simp
 go_at_call 10
 have hbz:Below w5.heap.size w5 z4:=(HF57.out.trans HZ4.out).plain
 refine(H5.out z4 _ _ _ _ Dv Da Dp Dm Cv Ca Cp Cm fv fa fp fm ev ea ep em (HYS.out _ HZ4.out) (HTS.out _ hbz) (HY.out _ HZ4.out) (HT.out _ hbz)).mono ?_
 rintro _ w9 ⟨rfl,hz5⟩
 have HF9:=hdq (HZ4.out.trans hz5)
 try dsimp only
 refine hK _ _ (fun _ _=>HPS.out _ HF9.out) ?_
 clear hK KK hz5 hHeld hbz
 try simp only[putsL]
 refine wpE_pu 28 ?_
 try simp only[putsL]
 refine wpE_pu 29 ?_
 try simp only[putsL]
 refine wpE_done (by kernel_rfl) ?_
 have HM:=hdq (HY.out _ HF9.out)
 have HS9:=hdq (show ∀W,Soft w5.heap.size w6.heap.size w9 W→Below w5.heap.size w5 W from fun W h=>by
  have hb1:=(HF57.out.trans HF9.out).plain
  have hb2:=h.fr.to_below (B:=w5.heap.size) (HF57.out.trans HF9.out).size fun i hi e=>by omega
  exact Below.trans hb1 hb2)
 have HG:=hdq (show ∀W,Soft w5.heap.size w6.heap.size w9 W→Bk W w6.heap.size 27 #[.slice Dv u1 fv,.slice Da u2 fa,.slice Dp u3 fp,.slice Dm u4 fm]from fun W h=>(HK7.out.fr0 HF9.out).fr h.fr fun e=>by have:=e.2;omega)
 clear HY HYS HK7 HF9 HZ1 HZ2 HZ3 HZ4 HPS
 have HX0:=hdq (Soft.refl w5.heap.size w6.heap.size w9)
 have hu4:u4≤9223372036854775807:=by rw[HU.out];exact leq9 HM.out.main.1 HM.out.main.2.1.1
 obtain⟨y0,y1,y2,y3,hl2⟩:=bk4 (HG.out w9 HX0.out)
 go_wp2_with fail
 clear y0 y1 y2 y3 hl2
 go_loopw [11] (fun i wr=>∃k:Nat,k≤u4∧i= .int .i64 k∧Hid (Soft w5.heap.size w6.heap.size w9 wr)) (fun i _=>u4 - (intOf i).toNat)
 case atStart=>exact⟨0,Nat.zero_le _,rfl,HX0⟩
 case round=>
  clear HX0
  obtain⟨k,hk,rfl,HR⟩:=hrel
  obtain⟨y0,y1,y2,y3,hl2⟩:=bk4 (HG.out wr HR.out)
  by_cases hlt:k < u4
  ·obtain⟨a0,a1,a2,a3,a4,a5,a6,ar,hd⟩:=Sts.drop_cons (show k < t.bare.main.len from by rw[←HU.out];exact hlt)
   obtain⟨mb,mo,rfl,hrow⟩:=HM.out.main.2.2 (by rw[←HU.out];omega)
   obtain⟨hbS,⟨q0,c0⟩,hz0,XA,xc,c2,hsl⟩:=hrow.at_ hd
   obtain⟨m0,d0⟩:=HR.out.int c0
   have z0:=HR.out.thaw hz0
   obtain⟨w10,hw10⟩:=nmq (wr.setCell ⟨mb,mo+k*7,none⟩ (.int .u8 99))
   have HR10:=hdq (show Soft w5.heap.size w6.heap.size w9 w10 by rw[hw10];exact HR.out.putInt 99 d0 hbS)
   have hmbl:mb < wr.heap.size:=by have:=HR.out.fr.size;have:=hl2;have:=hbS.2;omega
   obtain⟨xl,hxl⟩:=nmq a2.len
   rw[←hxl]at c2 hsl
   have hxl63:xl≤9223372036854775807:=leq9 hsl.1 hsl.2.1.1
   have HSL:=hdq hsl
   have HXL:=hdq hxl
   have HC2:=hdq c2
   have HW10:=hdq hw10
   have HBS:=hdq hbS
   have hlt':(k:Int) < (u4:Int):=by omega
   have hge:(0:Int)≤(k:Int):=by omega
   clear hd hrow hz0 c0 c2 hsl hxl hw10 hbS
   go_wp2_with fail
   rw[←HW10.out]
   clear d0 z0 y0 y1 y2 y3 hl2 hmbl
   go_loopw [12] (fun i wx=>∃k2:Nat,k2≤xl∧i= .int .i64 k2∧Hid (Soft w5.heap.size w6.heap.size w9 wx)) (fun i _=>xl - (intOf i).toNat)
   case atStart=>exact⟨0,Nat.zero_le _,rfl,HR10⟩
   case round=>
    clear HR10
    obtain⟨k2,hk2,rfl,HR2⟩:=hrel
    obtain⟨y0,y1,y2,y3,hl2⟩:=bk4 (HG.out wr HR2.out)
    have d2:=HR2.out.slice HC2.out
    have hmbl:mb < wr.heap.size:=by have:=HR2.out.fr.size;have:=hl2;have:=HBS.out.2;omega
    by_cases hlt2:k2 < xl
    ·obtain⟨xb,xo,rfl,hxr⟩:=HSL.out.2.2 (by omega)
     obtain⟨hxS,⟨q5,c5⟩,hz5⟩:=hxr.at_ (k:=k2) (by rw[←HXL.out];exact hlt2)
     obtain⟨m5,d5⟩:=HR2.out.int c5
     have z5:=HR2.out.thaw hz5
     have HN:=hdq (HR2.out.putInt 99 d5 hxS)
     have hxbl:xb < wr.heap.size:=by have:=HR2.out.fr.size;have:=hl2;have:=hxS.2;omega
     have hlt2':(k2:Int) < (xl:Int):=by omega
     have hge2:(0:Int)≤(k2:Int):=by omega
     clear hxr c5 hz5 hxS
     go_wp2_with fail
     go_roundw
     case rel=>exact⟨k2+1,by omega,by go_num,HN⟩
     case measure=>simp[intOf];omega
    ·have hlt2':¬(k2:Int) < (xl:Int):=by omega
     go_wp2_with fail
     go_roundw
     case rel=>exact⟨k+1,by omega,by go_num,HR2⟩
     case measure=>simp[intOf];omega
  ·have hlt':¬(k:Int) < (u4:Int):=by omega
   have HB:=hdq (HS9.out wr HR.out)
   have hka:Bk w5 w.heap.size 27 #[.slice Av n1 cv,.slice Aa n2 ca,.slice Ap n3 cp,.slice Am n4 cm]:=HKA.out _ HF5.out
   obtain⟨x0,x1,x2,x3,hl1⟩:=bk4 (show Bk wr _ _ _ from(HB.out.block _ hka.lt).trans hka)
   obtain⟨z0,z1,z2,z3,hl3⟩:=bk4 (show Bk wr _ _ _ from(HB.out.block _ HK5.out.lt).trans HK5.out)
   have HBW:=hdq ((HF1.out.trans HF5.out).plain.trans (HB.out.mono (HF1.out.trans HF5.out).size))
   have HC6:=hdq (H6.out wr HBW.out _ _ Cv Ca Cp Cm ev ea ep em (HTS.out _ HB.out) (HT.out _ HB.out))
   go_wp2_with fail
   refine HC6.out.mono ?_
   rintro _ y ⟨rfl,hy⟩
   have HE:=hdq (HBW.out.trans (hy.plain.mono HBW.out.size))
   clear hy
   go_wp2_with fail
   go_ret
   exact⟨rfl,HE.out⟩
end Go.Proofs.YtmopichdofgndaaGreatDoor
