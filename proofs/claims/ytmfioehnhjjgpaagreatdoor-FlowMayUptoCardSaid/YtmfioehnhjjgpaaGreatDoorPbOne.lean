/-
  print.bare's elements: one thing without its place, in place. Printed by wip/gen_pb/one.py.
-/
import Derived.Test.YtmfioehnhjjgpaaGreatDoorPbData
import Derived.Test.YtmfioehnhjjgpaaGreatDoorJnInC
set_option linter.unusedVariables false
set_option linter.unusedSimpArgs false
set_option maxHeartbeats 3200000
set_option maxRecDepth 100000
namespace Go.Proofs.YtmfioehnhjjgpaaGreatDoor
open Go.RowKit Go.Shelf

theorem zfp:in64 0:=by unfold in64;decide
def LowS (L:Nat) (w w':World):Prop:=SameS (fun b=>L≤b∧b < w.heap.size) w w'∧w.heap.size≤w'.heap.size
theorem LowS.set {L:Nat} {w w':World} {g:Nat} (h:LowS L w w') (hg:g < L) (i:Nat) (u:Value):LowS L w (w'.setCell ⟨g,i,none⟩ u):=by
 have k:=(Fr.own (Fr.refl (fun b=>b=g) w') i u).same (S:=fun b=>L≤b∧b < w.heap.size) fun b hb=>⟨by have:=h.2;omega,fun e=>by have e:b=g:=e;have:=hb.1;omega⟩
 exact⟨fun a ha=>⟨(k a ha).1.trans (h.1 a ha).1,(k a ha).2.trans (h.1 a ha).2⟩,by simpa using h.2⟩
theorem LowS.of {L:Nat} {w w':World} (h:Fr NoT w w'):LowS L w w':=⟨h.same fun b hb=>⟨hb.2,id⟩,h.size⟩
theorem LowS.step {L:Nat} {w w' w'':World} (h:LowS L w w') (hf:Fr NoT w' w''):LowS L w w'':=by
 have k:=hf.same (S:=fun b=>L≤b∧b < w.heap.size) fun b hb=>⟨by have:=h.2;omega,id⟩
 exact⟨fun a ha=>⟨(k a ha).1.trans (h.1 a ha).1,(k a ha).2.trans (h.1 a ha).2⟩,leq9 h.2 hf.size⟩
section
variable {L L' m:Nat} {w w':World} {A:Option Addr} {c:Nat}
theorem LowS.x {xs:Exs} (h:LowS L' w w') (hL:L≤L') (hx:SlR (fun b o=>ExR w (New L' w) False xs b o) m 64 A c):SlR (fun b o=>ExR w' (New L w') False xs b o) m 64 A c:=
 hx.imp fun _ _ k=>ExR.more (fun b hb=>⟨leq9 hL hb.1,ltq hb.2 h.2⟩) (ExR.keep h.1 k)
theorem LowS.cn {xs:Cds} (h:LowS L' w w') (hL:L≤L') (hx:SlR (fun b o=>CdR w (New L' w) False xs b o) m 64 A c):SlR (fun b o=>CdR w' (New L w') False xs b o) m 64 A c:=
 hx.imp fun _ _ k=>CdR.more (fun b hb=>⟨leq9 hL hb.1,ltq hb.2 h.2⟩) (CdR.keep h.1 k)
theorem LowS.s {xs:Sts} (h:LowS L' w w') (hL:L≤L') (hx:SlR (fun b o=>StR w (New L' w) False xs b o) m 128 A c):SlR (fun b o=>StR w' (New L w') False xs b o) m 128 A c:=
 hx.imp fun _ _ k=>StR.more (fun b hb=>⟨leq9 hL hb.1,ltq hb.2 h.2⟩) (StR.keep h.1 k)
theorem LowS.v {xs:List Va} (h:LowS L' w w') (hL:L≤L') (hx:SlR (VaR w (New L' w) False xs) m 24 A c):SlR (VaR w' (New L w') False xs) m 24 A c:=
 hx.imp fun _ _ k=>VaR.more (fun b hb=>⟨leq9 hL hb.1,ltq hb.2 h.2⟩) (VaR.keep h.1 k)
end
theorem zq3 (x:Va):zbH oneV 2 27 Va.bare x:=by
 intro w S ys g o T cur hS h hbk hc
 obtain⟨rfl,hat⟩:=h
 have c1:=(hbk.cell (o+1)).trans (hc 1 _ rfl)
 have f1:=hbk.frozen (o+1)
 have hgl:=hbk.lt
 have HBK:=hdq hbk
 have HC:=hdq hc
 clear hS hbk hc
 go_enter Tryz.func27,Tryz.ntmps27
 go_wp2_with fail
 go_end0
 have a1:=(OneAtB.refl (m:=2) rfl HC.out).set 1 (.int .i64 0) (by decide)
 exact⟨rfl,_,_,HBK.out.set_ (o+1) (.int .i64 0),a1,⟨rfl,zfp⟩,(Fr.refl (fun b=>b=g) w).own _ _⟩
theorem zq4 (x:Arr):zbH oneA 3 29 Arr.bare x:=by
 intro w S ys g o T cur hS h hbk hc
 obtain⟨rfl,hsz,hat⟩:=h
 have c1:=(hbk.cell (o+2)).trans (hc 2 _ rfl)
 have f1:=hbk.frozen (o+2)
 have hgl:=hbk.lt
 have HBK:=hdq hbk
 have HC:=hdq hc
 clear hS hbk hc
 go_enter Tryz.func29,Tryz.ntmps29
 go_wp2_with fail
 go_end0
 have a1:=(OneAtB.refl (m:=3) rfl HC.out).set 2 (.int .i64 0) (by decide)
 exact⟨rfl,_,_,HBK.out.set_ (o+2) (.int .i64 0),a1,⟨rfl,hsz,zfp⟩,(Fr.refl (fun b=>b=g) w).own _ _⟩
theorem zq5 (x:Ex) (hall:BzX x.args):zbH oneX 5 68 Ex.brz x:=by
 intro w S ys g o T cur hS h hbk hc
 obtain⟨A,c,rfl,hk,hn,hat,hsl⟩:=h
 have c3:=(hbk.cell (o+3)).trans (hc 3 _ rfl)
 have hgl:=hbk.lt
 have HX:=hdq (hall w S A c (fun b hb=>(hS b hb).1) hsl)
 have HBK:=hdq hbk
 have HC:=hdq hc
 have HK:=hdq (aiq hk hn)
 have HM:=hdq (zbf x.args)
 obtain⟨m,hm⟩:=nmq x.args.len
 rw[←hm]at c3 HX HC HM
 clear hS hbk hc hk hn hat hsl hall hm
 go_enter Tryz.func68,Tryz.ntmps68
 go_wp2_with fail
 refine HX.out.mono ?_
 rintro _ w1 ⟨A',c',rfl,hsl,hf⟩
 have k1:=HBK.out.fr0 hf
 have f3:=k1.frozen (o+3)
 have f4:=k1.frozen (o+4)
 have l1:=k1.lt
 have q3:=(k1.cell (o+3)).trans (HC.out 3 _ rfl)
 have q4:=(k1.cell (o+4)).trans (HC.out 4 _ rfl)
 have HK1:=hdq k1
 have HSL:=hdq hsl
 have HF:=hdq hf
 clear k1 hsl hf c3
 go_wp2_with fail
 go_end0
 have a1:=((OneAtB.refl (m:=5) rfl HC.out).set 4 (.int .i64 0) (by decide)).set 3 (.slice A' m c') (by decide)
 have a2:=(HK1.out.set_ (o+4) (.int .i64 0)).set_ (o+3) (.slice A' m c')
 have a3:=((HF.out.any:Fr (fun b=>b=g) w w1).own (o+4) (.int .i64 0)).own (o+3) (.slice A' m c')
 refine⟨rfl,_,_,a2,a1,⟨A',c',?_,HK.out.1,HK.out.2,zfp,?_⟩,a3⟩
 ·show _=([.int .u8 x.k,.string x.nm,.int .i64 x.n,.slice A' x.args.bare.len c',.int .i64 0]:List Value)
  rw[HM.out];rfl
 show SlR _ x.args.bare.len 64 A' c'
 rw[HM.out]
 exact(((LowS.of (Fr.refl NoT w1)).set hgl _ _).set hgl _ _).x (lrq _) HSL.out
theorem zq6 (x:Cn) (h1:BzX x.args) (hall:BzC x.of_):zbH oneC 4 70 Cn.brz x:=by
 intro w S ys g o T cur hS h hbk hc
 obtain⟨A,c,B,d,rfl,hk,hat,hsl,hsl2⟩:=h
 have c1:=(hbk.cell (o+1)).trans (hc 1 _ rfl)
 have c2:=(hbk.cell (o+2)).trans (hc 2 _ rfl)
 have hgl:=hbk.lt
 have HX:=hdq (fun(W:World) (hf:Fr NoT w W)=>h1 W S A c (fun b hb=>ltq (hS b hb).1 hf.size) (hsl.imp fun _ _ h=>ExR.keep (hf.same fun b hb=>⟨(hS b hb).1,id⟩) h))
 have HC:=hdq (fun(W:World) (hf:Fr NoT w W)=>hall W S B d (fun b hb=>ltq (hS b hb).1 hf.size) (hsl2.imp fun _ _ h=>CdR.keep (hf.same fun b hb=>⟨(hS b hb).1,id⟩) h))
 have HBK:=hdq hbk
 have HCU:=hdq hc
 have HK:=hdq hk
 have HM:=hdq (aiq (zbf x.args) (zck x.of_))
 obtain⟨m,hm⟩:=nmq x.args.len
 obtain⟨m2,hm2⟩:=nmq x.of_.len
 rw[←hm]at c1 HX HCU HM
 rw[←hm2]at c2 HC HCU HM
 clear hS hbk hc hsl hsl2 h1 hall hk hat hm hm2
 go_enter Tryz.func70,Tryz.ntmps70
 go_wp2_with fail
 refine zac (fun W'=>g < W'.heap.size∧W'.cell? ⟨g,o+1,none⟩=some (.slice A m c)∧W'.cell? ⟨g,o+2,none⟩=some (.slice B m2 d)) (fun i=>decide (i < 13)) (by kernel_rfl) ⟨hgl,c1,c2⟩ (fun hHeld=>?_)
 refine zaa 0 ?_
 try simp only[putsL]
 refine zaa 1 ?_
 try simp only[putsL]
 refine zaa 2 ?_
 try simp only[putsL]
 refine zaa 3 ?_
 try simp only[putsL]
 refine zaa 4 ?_
 try simp only[putsL]
 refine zaa 5 ?_
 try simp only[putsL]
 refine zaa 8 ?_
 try simp only[putsL]
 refine zaa 9 ?_
 try simp only[putsL]
 refine zaa 10 ?_
 try simp only[putsL]
 refine zas 6 hHeld ?_
 try simp only[putsL]
 refine zas 11 hHeld ?_
 try simp only[putsL]
 refine zab 7 rfl (by kernel_rfl) (fun KK hK=>?_)
 go_simp
 go_at_call 67
 refine(HX.out _ ((Fr.refl NoT w).drew)).mono ?_
 rintro _ w1 ⟨A',c',rfl,hsl,hf1⟩
 have HF1:=hdq (((Fr.refl NoT w).drew).trans hf1)
 have hk1:=HBK.out.fr0 HF1.out
 have hs1:g < w1.heap.size∧w1.cell? ⟨g,o+1,none⟩=some (.slice A m c)∧w1.cell? ⟨g,o+2,none⟩=some (.slice B m2 d):=⟨hk1.lt,(hk1.cell _).trans (HCU.out 1 _ rfl),(hk1.cell _).trans (HCU.out 2 _ rfl)⟩
 have HSL:=hdq hsl
 clear hHeld hsl hf1 hk1
 dsimp only
 refine hK _ _ (fun _ _=>hs1) ?_
 clear hK KK
 have hHeld:=hs1
 clear hs1
 try simp only[putsL]
 refine zab 12 rfl (by kernel_rfl) (fun KK hK=>?_)
 go_simp
 go_at_call 69
 refine(HC.out _ HF1.out).mono ?_
 rintro _ w2 ⟨B',d',rfl,hsl2,hf2⟩
 have hk2:=(HBK.out.fr0 HF1.out).fr0 hf2
 have hgl2:=hk2.lt
 have f1:=hk2.frozen (o+1)
 have f2:=hk2.frozen (o+2)
 have f3:=hk2.frozen (o+3)
 have q1:=(hk2.cell (o+1)).trans (HCU.out 1 _ rfl)
 have q2:=(hk2.cell (o+2)).trans (HCU.out 2 _ rfl)
 have q3:=(hk2.cell (o+3)).trans (HCU.out 3 _ rfl)
 have HF2:=hdq hf2
 have HK2:=hdq hk2
 have HSL2:=hdq hsl2
 clear hsl2 hf2 hk2
 dsimp only
 refine hK _ _ (fun _ _=>⟨hgl2,q1,q2⟩) ?_
 clear hK KK hHeld
 try simp only[putsL]
 refine zab 13 rfl (by kernel_rfl) (fun KK hK=>?_)
 go_simp
 refine hK _ _ (fun h=>absurd h (by decide)) ?_
 clear hK KK
 try simp only[putsL]
 refine zab 14 rfl (by kernel_rfl) (fun KK hK=>?_)
 go_simp
 refine hK _ _ (fun h=>absurd h (by decide)) ?_
 clear hK KK
 try simp only[putsL]
 refine zab 15 rfl (by kernel_rfl) (fun KK hK=>?_)
 go_simp
 refine hK _ _ (fun h=>absurd h (by decide)) ?_
 clear hK KK
 try simp only[putsL]
 refine zab 16 rfl (by kernel_rfl) (fun KK hK=>?_)
 go_simp
 refine hK _ _ (fun h=>absurd h (by decide)) ?_
 clear hK KK
 try simp only[putsL]
 refine zab 17 rfl (by kernel_rfl) (fun KK hK=>?_)
 go_simp
 refine hK _ _ (fun h=>absurd h (by decide)) ?_
 clear hK KK
 try simp only[putsL]
 refine zab 18 rfl (by kernel_rfl) (fun KK hK=>?_)
 go_simp
 refine hK _ _ (fun h=>absurd h (by decide)) ?_
 clear hK KK
 try simp only[putsL]
 refine zab 19 rfl (by kernel_rfl) (fun KK hK=>?_)
 go_simp
 refine hK _ _ (fun h=>absurd h (by decide)) ?_
 clear hK KK
 try simp only[putsL]
 refine zab 20 rfl (by kernel_rfl) (fun KK hK=>?_)
 go_simp
 refine hK _ _ (fun h=>absurd h (by decide)) ?_
 clear hK KK
 try simp only[putsL]
 refine zab 21 rfl (by kernel_rfl) (fun KK hK=>?_)
 go_simp
 refine hK _ _ (fun h=>absurd h (by decide)) ?_
 clear hK KK
 try simp only[putsL]
 refine zae (by kernel_rfl) ?_
 go_wp2_with fail
 go_end0
 have h12:Fr NoT w w2:=HF1.out.trans HF2.out
 have a1:=(((OneAtB.refl (m:=4) rfl HCU.out).set 3 (.int .i64 0) (by decide)).set 1 (.slice A' m c') (by decide)).set 2 (.slice B' m2 d') (by decide)
 have a2:=((HK2.out.set_ (o+3) (.int .i64 0)).set_ (o+1) (.slice A' m c')).set_ (o+2) (.slice B' m2 d')
 have a3:=(((h12.any:Fr (fun b=>b=g) w w2).own (o+3) (.int .i64 0)).own (o+1) (.slice A' m c')).own (o+2) (.slice B' m2 d')
 refine⟨rfl,_,_,a2,a1,⟨A',c',B',d',?_,HK.out,zfp,?_,?_⟩,a3⟩
 ·show _=([.int .u8 x.k,.slice A' x.args.bare.len c',.slice B' x.of_.bare.len d',.int .i64 0]:List Value)
  rw[HM.out.1,HM.out.2];rfl
 ·show SlR _ x.args.bare.len 64 A' c'
  rw[HM.out.1]
  exact((((LowS.of HF2.out).set hgl _ _).set hgl _ _).set hgl _ _).x (lrq _) HSL.out
 ·show SlR _ x.of_.bare.len 64 B' d'
  rw[HM.out.2]
  exact((((LowS.of (Fr.refl NoT w2)).set (ltq hgl HF1.out.size) _ _).set (ltq hgl HF1.out.size) _ _).set (ltq hgl HF1.out.size) _ _).cn HF1.out.size HSL2.out
theorem zq7 (x:Prc) (h1:BzV x.params) (hall:BzS x.body):zbH oneP 4 33 Prc.bare x:=by
 intro w S ys g o T cur hS h hbk hc
 obtain⟨A,c,B,d,rfl,hat,hsl,hsl2⟩:=h
 have c1:=(hbk.cell (o+1)).trans (hc 1 _ rfl)
 have c2:=(hbk.cell (o+2)).trans (hc 2 _ rfl)
 have hgl:=hbk.lt
 have HX:=hdq (fun(W:World) (hf:Fr NoT w W)=>h1 W S A c (fun b hb=>ltq (hS b hb).1 hf.size) (hsl.imp fun _ _ h=>VaR.keep (hf.same fun b hb=>⟨(hS b hb).1,id⟩) h))
 have HC:=hdq (fun(W:World) (hf:Fr NoT w W)=>hall W S B d (fun b hb=>ltq (hS b hb).1 hf.size) (hsl2.imp fun _ _ h=>StR.keep (hf.same fun b hb=>⟨(hS b hb).1,id⟩) h))
 have HBK:=hdq hbk
 have HCU:=hdq hc
 have HM:=hdq (aiq (show(x.params.map Va.bare).length =x.params.length from List.length_map ..) (zbS x.body))
 obtain⟨m,hm⟩:=nmq x.params.length
 obtain⟨m2,hm2⟩:=nmq x.body.len
 rw[←hm]at c1 HX HCU HM
 rw[←hm2]at c2 HC HCU HM
 clear hS hbk hc hsl hsl2 h1 hall hat hm hm2
 go_enter Tryz.func33,Tryz.ntmps33
 go_wp2_with fail
 refine zac (fun W'=>g < W'.heap.size∧W'.cell? ⟨g,o+1,none⟩=some (.slice A m c)∧W'.cell? ⟨g,o+2,none⟩=some (.slice B m2 d)) (fun i=>decide (i < 13)) (by kernel_rfl) ⟨hgl,c1,c2⟩ (fun hHeld=>?_)
 refine zaa 0 ?_
 try simp only[putsL]
 refine zaa 1 ?_
 try simp only[putsL]
 refine zaa 2 ?_
 try simp only[putsL]
 refine zaa 3 ?_
 try simp only[putsL]
 refine zaa 4 ?_
 try simp only[putsL]
 refine zaa 5 ?_
 try simp only[putsL]
 refine zaa 8 ?_
 try simp only[putsL]
 refine zaa 9 ?_
 try simp only[putsL]
 refine zaa 10 ?_
 try simp only[putsL]
 refine zas 6 hHeld ?_
 try simp only[putsL]
 refine zas 11 hHeld ?_
 try simp only[putsL]
 refine zab 7 rfl (by kernel_rfl) (fun KK hK=>?_)
 go_simp
 go_at_call 26
 refine(HX.out _ ((Fr.refl NoT w).drew)).mono ?_
 rintro _ w1 ⟨A',c',rfl,hsl,hf1⟩
 have HF1:=hdq (((Fr.refl NoT w).drew).trans hf1)
 have hk1:=HBK.out.fr0 HF1.out
 have hs1:g < w1.heap.size∧w1.cell? ⟨g,o+1,none⟩=some (.slice A m c)∧w1.cell? ⟨g,o+2,none⟩=some (.slice B m2 d):=⟨hk1.lt,(hk1.cell _).trans (HCU.out 1 _ rfl),(hk1.cell _).trans (HCU.out 2 _ rfl)⟩
 have HSL:=hdq hsl
 clear hHeld hsl hf1 hk1
 dsimp only
 refine hK _ _ (fun _ _=>hs1) ?_
 clear hK KK
 have hHeld:=hs1
 clear hs1
 try simp only[putsL]
 refine zab 12 rfl (by kernel_rfl) (fun KK hK=>?_)
 go_simp
 go_at_call 30
 refine(HC.out _ HF1.out).mono ?_
 rintro _ w2 ⟨B',d',rfl,hsl2,hf2⟩
 have hk2:=(HBK.out.fr0 HF1.out).fr0 hf2
 have hgl2:=hk2.lt
 have f1:=hk2.frozen (o+1)
 have f2:=hk2.frozen (o+2)
 have f3:=hk2.frozen (o+3)
 have q1:=(hk2.cell (o+1)).trans (HCU.out 1 _ rfl)
 have q2:=(hk2.cell (o+2)).trans (HCU.out 2 _ rfl)
 have q3:=(hk2.cell (o+3)).trans (HCU.out 3 _ rfl)
 have HF2:=hdq hf2
 have HK2:=hdq hk2
 have HSL2:=hdq hsl2
 clear hsl2 hf2 hk2
 dsimp only
 refine hK _ _ (fun _ _=>⟨hgl2,q1,q2⟩) ?_
 clear hK KK hHeld
 try simp only[putsL]
 refine zab 13 rfl (by kernel_rfl) (fun KK hK=>?_)
 go_simp
 refine hK _ _ (fun h=>absurd h (by decide)) ?_
 clear hK KK
 try simp only[putsL]
 refine zab 14 rfl (by kernel_rfl) (fun KK hK=>?_)
 go_simp
 refine hK _ _ (fun h=>absurd h (by decide)) ?_
 clear hK KK
 try simp only[putsL]
 refine zab 15 rfl (by kernel_rfl) (fun KK hK=>?_)
 go_simp
 refine hK _ _ (fun h=>absurd h (by decide)) ?_
 clear hK KK
 try simp only[putsL]
 refine zab 16 rfl (by kernel_rfl) (fun KK hK=>?_)
 go_simp
 refine hK _ _ (fun h=>absurd h (by decide)) ?_
 clear hK KK
 try simp only[putsL]
 refine zab 17 rfl (by kernel_rfl) (fun KK hK=>?_)
 go_simp
 refine hK _ _ (fun h=>absurd h (by decide)) ?_
 clear hK KK
 try simp only[putsL]
 refine zab 18 rfl (by kernel_rfl) (fun KK hK=>?_)
 go_simp
 refine hK _ _ (fun h=>absurd h (by decide)) ?_
 clear hK KK
 try simp only[putsL]
 refine zab 19 rfl (by kernel_rfl) (fun KK hK=>?_)
 go_simp
 refine hK _ _ (fun h=>absurd h (by decide)) ?_
 clear hK KK
 try simp only[putsL]
 refine zab 20 rfl (by kernel_rfl) (fun KK hK=>?_)
 go_simp
 refine hK _ _ (fun h=>absurd h (by decide)) ?_
 clear hK KK
 try simp only[putsL]
 refine zab 21 rfl (by kernel_rfl) (fun KK hK=>?_)
 go_simp
 refine hK _ _ (fun h=>absurd h (by decide)) ?_
 clear hK KK
 try simp only[putsL]
 refine zae (by kernel_rfl) ?_
 go_wp2_with fail
 go_end0
 have h12:Fr NoT w w2:=HF1.out.trans HF2.out
 have a1:=(((OneAtB.refl (m:=4) rfl HCU.out).set 3 (.int .i64 0) (by decide)).set 1 (.slice A' m c') (by decide)).set 2 (.slice B' m2 d') (by decide)
 have a2:=((HK2.out.set_ (o+3) (.int .i64 0)).set_ (o+1) (.slice A' m c')).set_ (o+2) (.slice B' m2 d')
 have a3:=(((h12.any:Fr (fun b=>b=g) w w2).own (o+3) (.int .i64 0)).own (o+1) (.slice A' m c')).own (o+2) (.slice B' m2 d')
 refine⟨rfl,_,_,a2,a1,⟨A',c',B',d',?_,zfp,?_,?_⟩,a3⟩
 ·show _=([.string x.nm,.slice A' (x.params.map Va.bare).length c',.slice B' x.body.bare.len d',.int .i64 0]:List Value)
  rw[HM.out.1,HM.out.2];rfl
 ·show SlR _ (x.params.map Va.bare).length 24 A' c'
  rw[HM.out.1]
  exact((((LowS.of HF2.out).set hgl _ _).set hgl _ _).set hgl _ _).v (lrq _) HSL.out
 ·show SlR _ x.body.bare.len 128 B' d'
  rw[HM.out.2]
  exact((((LowS.of (Fr.refl NoT w2)).set (ltq hgl HF1.out.size) _ _).set (ltq hgl HF1.out.size) _ _).set (ltq hgl HF1.out.size) _ _).s HF1.out.size HSL2.out
end Go.Proofs.YtmfioehnhjjgpaaGreatDoor
