/-
  print.Bare: A TREE WITHOUT ITS PLACES, in new memory. Printed by wip/gen_pb/top.py.
-/
import Derived.Test.YtmfioehnhjjgpaaGreatDoorPbSt
set_option linter.unusedVariables false
set_option linter.unusedSimpArgs false
namespace Go.Proofs.YtmfioehnhjjgpaaGreatDoor
open Go.RowKit Go.Shelf

section
variable {w:World} {S:Nat→Prop} {Z:Prop}
theorem ArR.lax:∀ {xs:List Arr} {b o:Nat},ArR w S Z xs b o→ArR w S False xs b o
 | [],_,_,_=>trivial
 |_::_,b,o,⟨⟨hb,_,h⟩,hr⟩=>⟨⟨hb,fun h=>h.elim,h⟩,ArR.lax hr⟩
theorem PrR.lax:∀ {xs:List Prc} {b o:Nat},PrR w S Z xs b o→PrR w S False xs b o
 | [],_,_,_=>trivial
 |_::_,b,o,⟨⟨hb,_,h⟩,⟨A,c,h1,s1⟩,⟨B,d,h2,s2⟩,hr⟩=>⟨⟨hb,fun h=>h.elim,h⟩,⟨A,c,h1,s1.imp fun _ _=>VaR.lax⟩,⟨B,d,h2,s2.imp fun _ _=>StR.lax⟩,PrR.lax hr⟩
theorem TrR.lax {t:Tre} {Av Aa Ap Am:Option Addr} {cv ca cp cm:Nat} (h:TrR w S Z t Av Aa Ap Am cv ca cp cm):TrR w S False t Av Aa Ap Am cv ca cp cm:=
 ⟨h.vars.imp fun _ _=>VaR.lax,h.arrays.imp fun _ _=>ArR.lax,h.procs.imp fun _ _=>PrR.lax,h.main.imp fun _ _=>StR.lax⟩
end
theorem znO {T U:Nat→Prop} {a b c:World} (h:Fr T a b) (k:Fr U b c) (ht:∀i,i < a.heap.size→U i→T i):Fr T a c:=
 ⟨k.os.trans h.os,k.tape.trans h.tape,k.output.trans h.output,leq9 h.size k.size,fun i hi hn=>(k.block i (ltq hi h.size) fun hu=>hn (ht i hi hu)).trans (h.block i hi hn)⟩
theorem LowS.a {L L' m:Nat} {w w':World} {A:Option Addr} {c:Nat} {xs:List Arr} (h:LowS L' w w') (hL:L≤L') (hx:SlR (ArR w (New L' w) False xs) m 32 A c):SlR (ArR w' (New L w') False xs) m 32 A c:=
 hx.imp fun _ _ k=>ArR.more (fun b hb=>⟨leq9 hL hb.1,ltq hb.2 h.2⟩) (ArR.keep h.1 k)
theorem LowS.p {L L' m:Nat} {w w':World} {A:Option Addr} {c:Nat} {xs:List Prc} (h:LowS L' w w') (hL:L≤L') (hx:SlR (PrR w (New L' w) False xs) m 72 A c):SlR (PrR w' (New L w') False xs) m 72 A c:=
 hx.imp fun _ _ k=>PrR.more (fun b hb=>⟨leq9 hL hb.1,ltq hb.2 h.2⟩) (PrR.keep h.1 k)
theorem zq9:(Tryz.prog.info? 27).map (·.size)=some 4:=by kernel_rfl
def PbP (t:Tre) (W:World) (e:Ending) (w':World):Prop:=∃Av Aa Ap Am cv ca cp cm,e= .returned (trV t Av Aa Ap Am cv ca cp cm)∧TrR w' (New W.heap.size w') False t Av Aa Ap Am cv ca cp cm∧Fr NoT W w'
set_option maxRecDepth 100000 in
set_option maxHeartbeats 6400000 in
theorem zmj (t:Tre) (w:World) (S:Nat→Prop) (Z:Prop) (Av Aa Ap Am:Option Addr) (cv ca cp cm:Nat) (hS:∀b,S b→b < w.heap.size) (hx:TrR w S Z t Av Aa Ap Am cv ca cp cm):
  Calls Tryz.prog 10 #[trV t Av Aa Ap Am cv ca cp cm] w (PbP t.bare w):=by
 unfold trV
 replace hx:=hx.lax
 have hX:=fun(W:World) (hf:Fr NoT w W)=>hx.keep (hf.same fun b hb=>⟨hS b hb,id⟩)
 have hSW:=fun(W:World) (hf:Fr NoT w W) b (hb:S b)=>ltq (hS b hb) hf.size
 obtain⟨n1,hn1⟩:=nmq t.vars.length
 obtain⟨n2,hn2⟩:=nmq t.arrays.length
 obtain⟨n3,hn3⟩:=nmq t.procs.length
 obtain⟨n4,hn4⟩:=nmq t.main.len
 have h1:=fun(W:World) (hf:Fr NoT w W)=>zmi t.vars W S Av cv (hSW W hf) (hX W hf).vars
 have h2:=fun(W:World) (hf:Fr NoT w W)=>zpF t.arrays W S Aa ca (hSW W hf) (hX W hf).arrays
 have h3:=fun(W:World) (hf:Fr NoT w W)=>zpG t.procs W S Ap cp (hSW W hf) (hX W hf).procs
 have h4:=fun(W:World) (hf:Fr NoT w W)=>zmh t.main W S Am cm (hSW W hf) (hX W hf).main
 have HM:=hdq (show t.bare.vars.length=n1∧t.bare.arrays.length=n2∧t.bare.procs.length=n3∧t.bare.main.len=n4 from
  ⟨by rw[hn1];exact List.length_map ..,by rw[hn2];exact List.length_map ..,by rw[hn3];exact List.length_map ..,by rw[hn4];exact zbS _⟩)
 rw[←hn1]at h1
 rw[←hn2]at h2
 rw[←hn3]at h3
 rw[←hn4]at h4
 rw[←hn1,←hn2,←hn3,←hn4]
 have H1:=hdq h1
 have H2:=hdq h2
 have H3:=hdq h3
 have H4:=hdq h4
 obtain⟨w1,hw1⟩:=nmq ((w.alloc (.cells #[.slice Av n1 cv,.slice Aa n2 ca,.slice Ap n3 cp,.slice Am n4 cm] 27)).alloc (.cells #[.slice none 0 0,.slice none 0 0,.slice none 0 0,.slice none 0 0] 27))
 have hfr1:Fr NoT w w1:=by rw[hw1];exact((Fr.refl _ _).alloc _).alloc _
 have k1:Bk w1 w.heap.size 27 #[.slice Av n1 cv,.slice Aa n2 ca,.slice Ap n3 cp,.slice Am n4 cm]:=by
  rw[hw1];exact(Bk.new _ _ _).fr0 ((Fr.refl _ _).alloc _)
 have k2:Bk w1 (w.heap.size+1) 27 #[.slice none 0 0,.slice none 0 0,.slice none 0 0,.slice none 0 0]:=by
  rw[hw1];exact Bk.new_at _ _ _ (by simp)
 have hz1:w1.heap.size=w.heap.size+1+1:=by rw[hw1];simp
 have HF1:=hdq hfr1
 have HK1:=hdq k1
 have HK2:=hdq k2
 have HW1:=hdq hw1
 have HZ1:=hdq hz1
 have y0:=k1.cell 0
 have y1:=k1.cell 1
 have y2:=k1.cell 2
 have y3:=k1.cell 3
 have hyl:=k1.lt
 simp only[getsL]at y0 y1 y2 y3
 have HHELD:=hdq (fun(W:World) (hf:Fr NoT w1 W)=>(show w.heap.size < W.heap.size∧W.cell? ⟨w.heap.size,0,none⟩=some (.slice Av n1 cv)∧W.cell? ⟨w.heap.size,1,none⟩=some (.slice Aa n2 ca)∧W.cell? ⟨w.heap.size,2,none⟩=some (.slice Ap n3 cp)∧W.cell? ⟨w.heap.size,3,none⟩=some (.slice Am n4 cm)from
  ⟨ltq hyl hf.size,(hf.cell (p:=⟨w.heap.size,0,none⟩) hyl id).trans y0,(hf.cell (p:=⟨w.heap.size,1,none⟩) hyl id).trans y1,(hf.cell (p:=⟨w.heap.size,2,none⟩) hyl id).trans y2,(hf.cell (p:=⟨w.heap.size,3,none⟩) hyl id).trans y3⟩))
 clear hx hS hn1 hn2 hn3 hn4 hw1 hfr1 k1 k2 hX hSW h1 h2 h3 h4 hz1
 go_enter Tryz.func10,Tryz.ntmps10
 go_wp2_with fail
 rw[←HW1.out]
 refine zac (fun W'=>w.heap.size < W'.heap.size∧W'.cell? ⟨w.heap.size,0,none⟩=some (.slice Av n1 cv)∧W'.cell? ⟨w.heap.size,1,none⟩=some (.slice Aa n2 ca)∧W'.cell? ⟨w.heap.size,2,none⟩=some (.slice Ap n3 cp)∧W'.cell? ⟨w.heap.size,3,none⟩=some (.slice Am n4 cm)) (fun i=>decide (i < 12)) (by kernel_rfl) (HHELD.out _ ((Fr.refl NoT w1).drew)) (fun hHeld=>?_)
 clear y0 y1 y2 y3 hyl
 refine zaa 0 ?_
 try simp only[putsL]
 refine zaa 3 ?_
 try simp only[putsL]
 refine zaa 6 ?_
 try simp only[putsL]
 refine zaa 9 ?_
 try simp only[putsL]
 refine zas 1 hHeld ?_
 try simp only[putsL]
 refine zas 4 hHeld ?_
 try simp only[putsL]
 refine zas 7 hHeld ?_
 try simp only[putsL]
 refine zas 10 hHeld ?_
 try simp only[putsL]
 refine zab 2 rfl (by kernel_rfl) (fun KK hK=>?_)
 go_simp
 go_at_call 26
 refine(H1.out _ (HF1.out.trans ((Fr.refl NoT w1).drew))).mono ?_
 rintro _ w2 ⟨B2,q2,rfl,hsl,hf⟩
 have HFL2:=hdq hf
 have HF2:=hdq (((Fr.refl NoT w1).drew :Fr NoT w1 _).trans hf)
 have HSL2:=hdq hsl
 have hs:=HHELD.out _ HF2.out
 clear hHeld hsl hf
 dsimp only
 refine hK _ _ (fun _ _=>hs) ?_
 clear hK KK
 have hHeld:=hs
 clear hs
 try simp only[putsL]
 refine zab 5 rfl (by kernel_rfl) (fun KK hK=>?_)
 go_simp
 go_at_call 28
 refine(H2.out _ (HF1.out.trans (HF2.out))).mono ?_
 rintro _ w3 ⟨B3,q3,rfl,hsl,hf⟩
 have HFL3:=hdq hf
 have HF3:=hdq ((HF2.out:Fr NoT w1 _).trans hf)
 have HSL3:=hdq hsl
 have hs:=HHELD.out _ HF3.out
 clear hHeld hsl hf
 dsimp only
 refine hK _ _ (fun _ _=>hs) ?_
 clear hK KK
 have hHeld:=hs
 clear hs
 try simp only[putsL]
 refine zab 8 rfl (by kernel_rfl) (fun KK hK=>?_)
 go_simp
 go_at_call 30
 refine(H4.out _ (HF1.out.trans (HF3.out))).mono ?_
 rintro _ w4 ⟨B4,q4,rfl,hsl,hf⟩
 have HFL4:=hdq hf
 have HF4:=hdq ((HF3.out:Fr NoT w1 _).trans hf)
 have HSL4:=hdq hsl
 have hs:=HHELD.out _ HF4.out
 clear hHeld hsl hf
 dsimp only
 refine hK _ _ (fun _ _=>hs) ?_
 clear hK KK
 have hHeld:=hs
 clear hs
 try simp only[putsL]
 refine zab 11 rfl (by kernel_rfl) (fun KK hK=>?_)
 go_simp
 go_at_call 32
 refine(H3.out _ (HF1.out.trans (HF4.out))).mono ?_
 rintro _ w5 ⟨B5,q5,rfl,hsl,hf⟩
 have HFL5:=hdq hf
 have HF5:=hdq ((HF4.out:Fr NoT w1 _).trans hf)
 have HSL5:=hdq hsl
 have hs:=HHELD.out _ HF5.out
 clear hHeld hsl hf
 have hk5:=HK2.out.fr0 HF5.out
 have z0:=hk5.frozen 0
 have z1:=hk5.frozen 1
 have z2:=hk5.frozen 2
 have z3:=hk5.frozen 3
 have y0:=hk5.cell 0
 have y1:=hk5.cell 1
 have y2:=hk5.cell 2
 have y3:=hk5.cell 3
 have yl:=hk5.lt
 simp only[getsL]at y0 y1 y2 y3
 have HK5:=hdq hk5
 clear hk5
 dsimp only
 refine hK _ _ (fun _ _=>hs) ?_
 clear hK KK
 clear hs
 try simp only[putsL]
 refine zaa 12 ?_
 try simp only[putsL]
 refine zab 13 rfl (by kernel_rfl) (fun KK hK=>?_)
 go_simp
 refine hK _ _ (fun h=>absurd h (by decide)) ?_
 clear hK KK
 try simp only[putsL]
 refine zae (by kernel_rfl) ?_
 obtain⟨wf,hwf⟩:=nmq ((((w5.setCell ⟨w.heap.size+1,0,none⟩ (.slice B2 n1 q2)).setCell ⟨w.heap.size+1,1,none⟩ (.slice B3 n2 q3)).setCell ⟨w.heap.size+1,2,none⟩ (.slice B5 n3 q5)).setCell ⟨w.heap.size+1,3,none⟩ (.slice B4 n4 q4))
 have hg:w.heap.size+1 < w1.heap.size:=by have:=HZ1.out;omega
 have hff0:Fr (fun i=>i=w.heap.size+1) w5 wf:=by rw[hwf];exact Fr.own (Fr.own (Fr.own (Fr.own (Fr.refl _ _) _ _) _ _) _ _) _ _
 have hff:Fr NoT w wf:=znO (HF1.out.trans HF5.out) hff0 fun i hi e=>by have e:i=w.heap.size+1:=e;omega
 have hkf:Bk wf (w.heap.size+1) 27 #[.slice B2 n1 q2,.slice B3 n2 q3,.slice B5 n3 q5,.slice B4 n4 q4]:=by
  have:=(((HK5.out.set_ 0 (.slice B2 n1 q2)).set_ 1 (.slice B3 n2 q3)).set_ 2 (.slice B5 n3 q5)).set_ 3 (.slice B4 n4 q4)
  rw[hwf];simpa using this
 have hlow:∀(k:Nat) (W:World),w1.heap.size≤k→LowS k W w5→LowS k W wf:=fun k W hk h=>by
  rw[hwf];exact(((h.set (by omega) _ _).set (by omega) _ _).set (by omega) _ _).set (by omega) _ _
 have HFF:=hdq hff
 have HKF:=hdq hkf
 have HLOW:=hdq hlow
 have HWF:=hdq hwf
 rw[←HWF.out]
 clear hwf hff hff0 hkf hlow hg z0 z1 z2 z3 y0 y1 y2 y3 yl
 go_wp2_with fail
 have hww:w.heap.size≤w1.heap.size:=HF1.out.size
 refine bodyPost_ret (results_cell_row (p:=2) (ty:=27) rfl _ _ (w.heap.size+1) 27 _ (0,0) _ rfl HKF.out Tryz.underlying27 rfl zq9) rfl ⟨B2,B3,B5,B4,q2,q3,q5,q4,?_,⟨?_,?_,?_,?_⟩,HFF.out⟩
 ·unfold trV
  rw[HM.out.1,HM.out.2.1,HM.out.2.2.1,HM.out.2.2.2]
 ·rw[HM.out.1]
  exact(HLOW.out w1.heap.size w2 (lrq _) ((LowS.of HFL3.out).step (HFL4.out.trans HFL5.out))).v hww HSL2.out
 ·rw[HM.out.2.1]
  exact(HLOW.out w2.heap.size w3 HF2.out.size (LowS.of (HFL4.out.trans HFL5.out))).a (leq9 hww HF2.out.size) HSL3.out
 ·rw[HM.out.2.2.1]
  exact(HLOW.out w4.heap.size w5 HF4.out.size (LowS.of (Fr.refl NoT w5))).p (leq9 hww HF4.out.size) HSL5.out
 ·rw[HM.out.2.2.2]
  exact(HLOW.out w3.heap.size w4 HF3.out.size (LowS.of HFL5.out)).s (leq9 hww HF3.out.size) HSL4.out
end Go.Proofs.YtmfioehnhjjgpaaGreatDoor
