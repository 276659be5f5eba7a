/-
  print.bareStmt: one statement without its place, in place. Printed by wip/gen_pb/st.py.
-/
import Derived.Test.YtmfioehnhjjgpaaGreatDoorPbOne
set_option linter.unusedVariables false
set_option linter.unusedSimpArgs false
namespace Go.Proofs.YtmfioehnhjjgpaaGreatDoor
open Go.RowKit Go.Shelf

set_option maxRecDepth 100000 in
set_option maxHeartbeats 6400000 in
theorem zq8 (x:St) (h1:BzX x.args) (h2:BzC x.cond) (h3:BzS x.body) (h4:BzS x.els):zbH oneS 7 31 St.brz x:=by
 intro w S ys g o T cur hS h hbk hc
 obtain⟨A2,p2,A3,p3,A4,p4,A5,p5,rfl,hk,hat,s2,s3,s4,s5⟩:=h
 have c2:=(hbk.cell (o+2)).trans (hc 2 _ rfl)
 have c3:=(hbk.cell (o+3)).trans (hc 3 _ rfl)
 have hgl:=hbk.lt
 have hsame:=fun(W:World) (hf:Fr (fun b=>b=g) w W)=>hf.same (S:=S) fun b hb=>⟨(hS b hb).1,fun e=>(hS b hb).2 e⟩
 have hlow:=fun(W:World) (hf:Fr (fun b=>b=g) w W) b (hb:S b)=>ltq (hS b hb).1 hf.size
 have H1:=hdq (fun(W:World) (hf:Fr (fun b=>b=g) w W)=>h1 W S A2 p2 (hlow W hf) (s2.imp fun _ _ h=>ExR.keep (hsame W hf) h))
 have H2:=hdq (fun(W:World) (hf:Fr (fun b=>b=g) w W)=>h2 W S A3 p3 (hlow W hf) (s3.imp fun _ _ h=>CdR.keep (hsame W hf) h))
 have H3:=hdq (fun(W:World) (hf:Fr (fun b=>b=g) w W)=>h3 W S A4 p4 (hlow W hf) (s4.imp fun _ _ h=>StR.keep (hsame W hf) h))
 have H4:=hdq (fun(W:World) (hf:Fr (fun b=>b=g) w W)=>h4 W S A5 p5 (hlow W hf) (s5.imp fun _ _ h=>StR.keep (hsame W hf) h))
 have HBK:=hdq hbk
 have HCU:=hdq hc
 have HK:=hdq hk
 have HM:=hdq (aiq (zbf x.args) (aiq (zck x.cond) (aiq (zbS x.body) (zbS x.els))))
 obtain⟨m2,hm2⟩:=nmq x.args.len
 obtain⟨m3,hm3⟩:=nmq x.cond.len
 obtain⟨m4,hm4⟩:=nmq x.body.len
 obtain⟨m5,hm5⟩:=nmq x.els.len
 rw[←hm2]at c2 H1 HCU HM
 rw[←hm3]at c3 H2 HCU HM
 rw[←hm4]at H3 HCU HM
 rw[←hm5]at H4 HCU HM
 clear hS hbk hc s2 s3 s4 s5 h1 h2 h3 h4 hk hat hsame hlow hm2 hm3 hm4 hm5
 go_enter Tryz.func31,Tryz.ntmps31
 go_wp2_with fail
 refine zac (fun W'=>g < W'.heap.size∧W'.cell? ⟨g,o+2,none⟩=some (.slice A2 m2 p2)∧W'.cell? ⟨g,o+3,none⟩=some (.slice A3 m3 p3)) (fun i=>decide (i < 13)) (by kernel_rfl) ⟨hgl,c2,c3⟩ (fun hHeld=>?_)
 refine zaa 0 ?_
 try simp only[putsL]
 refine zaa 1 ?_
 try simp only[putsL]
 refine zaa 2 ?_
 try simp only[putsL]
 refine zaa 3 ?_
 try simp only[putsL]
 refine zaa 4 ?_
 try simp only[putsL]
 refine zaa 5 ?_
 try simp only[putsL]
 refine zaa 8 ?_
 try simp only[putsL]
 refine zaa 9 ?_
 try simp only[putsL]
 refine zaa 10 ?_
 try simp only[putsL]
 refine zas 6 hHeld ?_
 try simp only[putsL]
 refine zas 11 hHeld ?_
 try simp only[putsL]
 refine zab 7 rfl (by kernel_rfl) (fun KK hK=>?_)
 go_simp
 go_at_call 67
 refine(H1.out _ ((Fr.refl (fun b=>b=g) w).drew)).mono ?_
 rintro _ w1 ⟨B2,q2,rfl,hsl,hf1⟩
 have HF1:=hdq (((Fr.refl NoT w).drew).trans hf1)
 have hk1:=HBK.out.fr0 HF1.out
 have hs1:g < w1.heap.size∧w1.cell? ⟨g,o+2,none⟩=some (.slice A2 m2 p2)∧w1.cell? ⟨g,o+3,none⟩=some (.slice A3 m3 p3):=⟨hk1.lt,(hk1.cell _).trans (HCU.out 2 _ rfl),(hk1.cell _).trans (HCU.out 3 _ rfl)⟩
 have HSL2:=hdq hsl
 clear hHeld hsl hf1 hk1
 dsimp only
 refine hK _ _ (fun _ _=>hs1) ?_
 clear hK KK
 have hHeld:=hs1
 clear hs1
 try simp only[putsL]
 refine zab 12 rfl (by kernel_rfl) (fun KK hK=>?_)
 go_simp
 go_at_call 69
 refine(H2.out _ HF1.out.any).mono ?_
 rintro _ w2 ⟨B3,q3,rfl,hsl3,hf2⟩
 have hk2:=(HBK.out.fr0 HF1.out).fr0 hf2
 have hgl2:=hk2.lt
 have f2:=hk2.frozen (o+2)
 have f3:=hk2.frozen (o+3)
 have f6:=hk2.frozen (o+6)
 have g2:=(hk2.cell (o+2)).trans (HCU.out 2 _ rfl)
 have g3:=(hk2.cell (o+3)).trans (HCU.out 3 _ rfl)
 have g6:=(hk2.cell (o+6)).trans (HCU.out 6 _ rfl)
 have HF2:=hdq hf2
 have HK2:=hdq hk2
 have HSL3:=hdq hsl3
 clear hsl3 hf2 hk2
 dsimp only
 refine hK _ _ (fun _ _=>⟨hgl2,g2,g3⟩) ?_
 clear hK KK hHeld
 try simp only[putsL]
 refine zab 13 rfl (by kernel_rfl) (fun KK hK=>?_)
 go_simp
 refine hK _ _ (fun h=>absurd h (by decide)) ?_
 clear hK KK
 try simp only[putsL]
 refine zab 14 rfl (by kernel_rfl) (fun KK hK=>?_)
 go_simp
 refine hK _ _ (fun h=>absurd h (by decide)) ?_
 clear hK KK
 try simp only[putsL]
 refine zab 15 rfl (by kernel_rfl) (fun KK hK=>?_)
 go_simp
 refine hK _ _ (fun h=>absurd h (by decide)) ?_
 clear hK KK
 try simp only[putsL]
 refine zab 16 rfl (by kernel_rfl) (fun KK hK=>?_)
 go_simp
 refine hK _ _ (fun h=>absurd h (by decide)) ?_
 clear hK KK
 try simp only[putsL]
 refine zab 17 rfl (by kernel_rfl) (fun KK hK=>?_)
 go_simp
 refine hK _ _ (fun h=>absurd h (by decide)) ?_
 clear hK KK
 try simp only[putsL]
 refine zab 18 rfl (by kernel_rfl) (fun KK hK=>?_)
 go_simp
 refine hK _ _ (fun h=>absurd h (by decide)) ?_
 clear hK KK
 try simp only[putsL]
 refine zab 19 rfl (by kernel_rfl) (fun KK hK=>?_)
 go_simp
 refine hK _ _ (fun h=>absurd h (by decide)) ?_
 clear hK KK
 try simp only[putsL]
 refine zab 20 rfl (by kernel_rfl) (fun KK hK=>?_)
 go_simp
 refine hK _ _ (fun h=>absurd h (by decide)) ?_
 clear hK KK
 try simp only[putsL]
 refine zab 21 rfl (by kernel_rfl) (fun KK hK=>?_)
 go_simp
 refine hK _ _ (fun h=>absurd h (by decide)) ?_
 clear hK KK
 try simp only[putsL]
 refine zae (by kernel_rfl) ?_
 obtain⟨w3,hw3⟩:=nmq (((w2.setCell ⟨g,o+6,none⟩ (.int .i64 0)).setCell ⟨g,o+2,none⟩ (.slice B2 m2 q2)).setCell ⟨g,o+3,none⟩ (.slice B3 m3 q3))
 have h12:Fr NoT w w2:=HF1.out.trans HF2.out
 have a1:=(((OneAtB.refl (m:=7) rfl HCU.out).set 6 (.int .i64 0) (by decide)).set 2 (.slice B2 m2 q2) (by decide)).set 3 (.slice B3 m3 q3) (by decide)
 have a2:=((HK2.out.set_ (o+6) (.int .i64 0)).set_ (o+2) (.slice B2 m2 q2)).set_ (o+3) (.slice B3 m3 q3)
 have a3:=(((h12.any:Fr (fun b=>b=g) w w2).own (o+6) (.int .i64 0)).own (o+2) (.slice B2 m2 q2)).own (o+3) (.slice B3 m3 q3)
 have l1:=(((LowS.of HF2.out).set hgl (o+6) (.int .i64 0)).set hgl (o+2) (.slice B2 m2 q2)).set hgl (o+3) (.slice B3 m3 q3)
 have hgw1:g < w1.heap.size:=ltq hgl HF1.out.size
 have l2:=(((LowS.of (L:=w1.heap.size) (Fr.refl NoT w2)).set hgw1 (o+6) (.int .i64 0)).set hgw1 (o+2) (.slice B2 m2 q2)).set hgw1 (o+3) (.slice B3 m3 q3)
 rw[←hw3]at a2 a3 l1 l2
 have HA:=hdq a1
 have HL:=hdq (aiq l1 l2)
 have HF3:=hdq a3
 have HK3:=hdq a2
 have HW3:=hdq hw3
 have c4:=(a2.cell (o+4)).trans (a1.2.2.1 4 _ rfl)
 have c5:=(a2.cell (o+5)).trans (a1.2.2.1 5 _ rfl)
 have hgl3:=a2.lt
 clear a1 a2 a3 l1 l2 hw3 h12 f2 f3 f6 g2 g3 g6 hgl2
 rw[←HW3.out]
 go_wp2_with fail
 refine zac (fun W'=>g < W'.heap.size∧W'.cell? ⟨g,o+4,none⟩=some (.slice A4 m4 p4)∧W'.cell? ⟨g,o+5,none⟩=some (.slice A5 m5 p5)) (fun i=>decide (i < 12)) (by kernel_rfl) ⟨hgl3,c4,c5⟩ (fun hHeld=>?_)
 refine zaa 0 ?_
 try simp only[putsL]
 refine zaa 1 ?_
 try simp only[putsL]
 refine zaa 2 ?_
 try simp only[putsL]
 refine zaa 3 ?_
 try simp only[putsL]
 refine zaa 4 ?_
 try simp only[putsL]
 refine zaa 7 ?_
 try simp only[putsL]
 refine zaa 8 ?_
 try simp only[putsL]
 refine zaa 9 ?_
 try simp only[putsL]
 refine zas 5 hHeld ?_
 try simp only[putsL]
 refine zas 10 hHeld ?_
 try simp only[putsL]
 refine zab 6 rfl (by kernel_rfl) (fun KK hK=>?_)
 go_simp
 go_at_call 30
 refine(H3.out _ (HF3.out.drew)).mono ?_
 rintro _ w4 ⟨B4,q4,rfl,hsl4,hf4⟩
 have HF4:=hdq (((Fr.refl NoT w3).drew).trans hf4)
 have hk4:=HK3.out.fr0 HF4.out
 have hs4:g < w4.heap.size∧w4.cell? ⟨g,o+4,none⟩=some (.slice A4 m4 p4)∧w4.cell? ⟨g,o+5,none⟩=some (.slice A5 m5 p5):=⟨hk4.lt,(hk4.cell _).trans (HA.out.2.2.1 4 _ rfl),(hk4.cell _).trans (HA.out.2.2.1 5 _ rfl)⟩
 have HSL4:=hdq hsl4
 clear hHeld hsl4 hf4 hk4
 dsimp only
 refine hK _ _ (fun _ _=>hs4) ?_
 clear hK KK
 have hHeld:=hs4
 clear hs4
 try simp only[putsL]
 refine zab 11 rfl (by kernel_rfl) (fun KK hK=>?_)
 go_simp
 go_at_call 30
 refine(H4.out _ (HF3.out.trans HF4.out.any)).mono ?_
 rintro _ w5 ⟨B5,q5,rfl,hsl5,hf5⟩
 have hk5:=(HK3.out.fr0 HF4.out).fr0 hf5
 have hgl5:=hk5.lt
 have f4:=hk5.frozen (o+4)
 have f5:=hk5.frozen (o+5)
 have g4:=(hk5.cell (o+4)).trans (HA.out.2.2.1 4 _ rfl)
 have g5:=(hk5.cell (o+5)).trans (HA.out.2.2.1 5 _ rfl)
 have HF5:=hdq hf5
 have HK5:=hdq hk5
 have HSL5:=hdq hsl5
 clear hsl5 hf5 hk5
 dsimp only
 refine hK _ _ (fun _ _=>⟨hgl5,g4,g5⟩) ?_
 clear hK KK hHeld
 try simp only[putsL]
 refine zab 12 rfl (by kernel_rfl) (fun KK hK=>?_)
 go_simp
 refine hK _ _ (fun h=>absurd h (by decide)) ?_
 clear hK KK
 try simp only[putsL]
 refine zab 13 rfl (by kernel_rfl) (fun KK hK=>?_)
 go_simp
 refine hK _ _ (fun h=>absurd h (by decide)) ?_
 clear hK KK
 try simp only[putsL]
 refine zab 14 rfl (by kernel_rfl) (fun KK hK=>?_)
 go_simp
 refine hK _ _ (fun h=>absurd h (by decide)) ?_
 clear hK KK
 try simp only[putsL]
 refine zab 15 rfl (by kernel_rfl) (fun KK hK=>?_)
 go_simp
 refine hK _ _ (fun h=>absurd h (by decide)) ?_
 clear hK KK
 try simp only[putsL]
 refine zab 16 rfl (by kernel_rfl) (fun KK hK=>?_)
 go_simp
 refine hK _ _ (fun h=>absurd h (by decide)) ?_
 clear hK KK
 try simp only[putsL]
 refine zab 17 rfl (by kernel_rfl) (fun KK hK=>?_)
 go_simp
 refine hK _ _ (fun h=>absurd h (by decide)) ?_
 clear hK KK
 try simp only[putsL]
 refine zae (by kernel_rfl) ?_
 go_wp2_with fail
 go_end0
 have h35:Fr NoT w3 w5:=HF4.out.trans HF5.out
 have a1:=(HA.out.set 4 (.slice B4 m4 q4) (by decide)).set 5 (.slice B5 m5 q5) (by decide)
 have a2:=(HK5.out.set_ (o+4) (.slice B4 m4 q4)).set_ (o+5) (.slice B5 m5 q5)
 have a3:=((HF3.out.trans (h35.any:Fr (fun b=>b=g) w3 w5)).own (o+4) (.slice B4 m4 q4)).own (o+5) (.slice B5 m5 q5)
 have hw13:w1.heap.size≤w3.heap.size:=HL.out.1.2
 have hww3:w.heap.size≤w3.heap.size:=HF3.out.size
 have hgw1:g < w1.heap.size:=ltq hgl HF1.out.size
 have hg4:g < w4.heap.size:=ltq hgl3 HF4.out.size
 refine⟨rfl,_,_,a2,a1,⟨B2,q2,B3,q3,B4,q4,B5,q5,?_,HK.out,zfp,?_,?_,?_,?_⟩,a3⟩
 ·show _=([.int .u8 x.k,.string x.nm,.slice B2 x.args.bare.len q2,.slice B3 x.cond.bare.len q3,.slice B4 x.body.bare.len q4,.slice B5 x.els.bare.len q5,.int .i64 0]:List Value)
  rw[HM.out.1,HM.out.2.1,HM.out.2.2.1,HM.out.2.2.2];rfl
 ·show SlR _ x.args.bare.len 64 B2 q2
  rw[HM.out.1]
  exact(((HL.out.1.step h35).set hgl _ _).set hgl _ _).x (lrq _) HSL2.out
 ·show SlR _ x.cond.bare.len 64 B3 q3
  rw[HM.out.2.1]
  exact(((HL.out.2.step h35).set hgw1 _ _).set hgw1 _ _).cn HF1.out.size HSL3.out
 ·show SlR _ x.body.bare.len 128 B4 q4
  rw[HM.out.2.2.1]
  exact(((LowS.of (L:=w3.heap.size) HF5.out).set hgl3 _ _).set hgl3 _ _).s hww3 HSL4.out
 ·show SlR _ x.els.bare.len 128 B5 q5
  rw[HM.out.2.2.2]
  exact(((LowS.of (L:=w4.heap.size) (Fr.refl NoT w5)).set hg4 _ _).set hg4 _ _).s (leq9 hww3 HF4.out.size) HSL5.out
theorem zh4:∀(xs:Exs),∀x∈xs.toL,zbH oneX 5 68 Ex.brz x
 | .nil,x,h=>by simp[Exs.toL]at h
 | .cons k nm n args at_ rest,x,h=>by
  rcases List.mem_cons.1 h with e|h
  ·subst e;exact zq5 _ (zoD args (zh4 args))
  ·exact zh4 rest x h
theorem zmg (xs:Exs):BzX xs:=zoD xs (zh4 xs)
theorem zh5:∀(xs:Cds),∀x∈xs.toL,zbH oneC 4 70 Cn.brz x
 | .nil,x,h=>by simp[Cds.toL]at h
 | .cons k args of_ at_ rest,x,h=>by
  rcases List.mem_cons.1 h with e|h
  ·subst e;exact zq6 _ (zmg args) (zoE of_ (zh5 of_))
  ·exact zh5 rest x h
theorem zpE (xs:Cds):BzC xs:=zoE xs (zh5 xs)
theorem zf7:∀(xs:Sts),∀x∈xs.toL,zbH oneS 7 31 St.brz x
 | .nil,x,h=>by simp[Sts.toL]at h
 | .cons k nm args cond body els at_ rest,x,h=>by
  rcases List.mem_cons.1 h with e|h
  ·subst e;exact zq8 _ (zmg args) (zpE cond) (zmf body (zf7 body)) (zmf els (zf7 els))
  ·exact zf7 rest x h
theorem zmh (xs:Sts):BzS xs:=zmf xs (zf7 xs)
theorem zmi (xs:List Va):BzV xs:=zq0 xs fun x _=>zq3 x
theorem zpF (xs:List Arr):BzA xs:=zq1 xs fun x _=>zq4 x
theorem zpG (xs:List Prc):BzP xs:=zq2 xs fun x _=>zq7 x (zmi _) (zmh _)
end Go.Proofs.YtmfioehnhjjgpaaGreatDoor
