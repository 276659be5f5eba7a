/-
  law14: the chapter's run, alive; SemNames.
-/
import Derived.Test.YtobegfbdedgmpaaGreatDoorJgFgLw
import Derived.Test.YtobegfbdedgmpaaGreatDoorJnSmR
import Derived.Test.YtobegfbdedgmpaaGreatDoorJgSrR
set_option linter.unusedVariables false
set_option linter.unusedSimpArgs false
set_option maxHeartbeats 3200000
set_option maxRecDepth 100000
namespace Go.Proofs.YtobegfbdedgmpaaGreatDoor
open Go.RowKit Go.Shelf Go.Maps

structure OneN (en:En) (x:Int):Prop where
 vs:en.vs= [x]
 ls:en.ls= []
 ne:x≠0
def EndC (en:En) (b o cv:Nat) (Al:Option Addr) (cl:Nat):Value:= .agg #[.int .u8 en.kind,.int .u8 en.wrong,.int .i64 en.at_,.int .i64 en.node,.int .i64 en.edge,.int .i64 en.left,.slice (some ⟨b,o,none⟩) 1 cv,.slice Al 0 cl]
def RanP (en:En) (x:Int) (W:World) (e:Ending) (w':World):Prop:=∃b o cv Al cl,e= .returned (.tuple #[EndC en b o cv Al cl,.bool true])∧w'.cell? ⟨b,o,none⟩=some (.int .i64 x)∧b < w'.heap.size∧1≤cv∧Fr NoT W w'
theorem endIs_one {w:World} {en:En} {v:Value} {x:Int} (h:EndIs w en v) (ho:OneN en x):∃b o cv Al cl,v=EndC en b o cv Al cl∧w.cell? ⟨b,o,none⟩=some (.int .i64 x)∧b < w.heap.size∧1≤cv:=by
 obtain⟨Av,cv,Al,cl,rfl,hst⟩:=h
 have hv:=hst.vars
 rw[ho.vs]at hv
 obtain⟨b,o,rfl,hb,hc⟩:=hv.2.2 (by simp)
 refine⟨b,o,cv,Al,cl,?_,(hc 0 x rfl).1,hb,hv.1⟩
 unfold EndC
 rw[ho.vs,ho.ls]
 rfl
theorem zero_no {x:Int} (h:x≠0) (o:Nat):(#[.int .u8 0,.int .u8 0,.int .i64 0,.int .i64 0,.int .i64 0,.int .i64 0,.slice none 0 0,.slice none 0 0]:Array Value)[o]?≠some (.int .i64 x):=by
 intro e
 rcases(show o=0∨o=1∨o=2∨o=3∨o=4∨o=5∨o=6∨o=7∨8≤o from by omega)with rfl|rfl|rfl|rfl|rfl|rfl|rfl|rfl|h8
 all_goals first
  |(simp at e;omega)
  |(simp at e;done)
  |(rw[Array.getElem?_eq_none (by simpa using h8)]at e;cases e)
theorem sizeEn:(Tryz.prog.info? 59).map (·.size)=some 8:=by kernel_rfl
theorem ran_any (steps:Int) (en:En) (x:Int) (n:Nat) (w:World) (he:NameEnv w) (h0:errNo lwG 0 steps=0) (hen:endsN lwG n (run0 lwG [] steps)=some en) (ho:OneN en x):
  Calls Tryz.prog 26 #[.string ⟨lw0.toArray⟩,.slice none 0 0,.int .i64 steps] w (RanP en x w):=by
 obtain⟨w1,hw1⟩:∃y,y=w.alloc (.cells #[.int .u8 0,.int .u8 0,.int .i64 0,.int .i64 0,.int .i64 0,.int .i64 0,.slice none 0 0,.slice none 0 0] 59):=⟨_,rfl⟩
 have hf1:Fr NoT w w1:=by rw[hw1];exact(Fr.refl _ _).alloc _
 have hk1:Bk w1 w.heap.size 59 #[.int .u8 0,.int .u8 0,.int .i64 0,.int .i64 0,.int .i64 0,.int .i64 0,.slice none 0 0,.slice none 0 0]:=by rw[hw1];exact Bk.new _ _ _
 have h1:=lw_par w1 (he.keep hf1.plain)
 have HW1:=Lib.hid hw1
 have HF1:=Lib.hid hf1
 have HK1:=Lib.hid hk1
 have H1:=Lib.hid (show Calls Tryz.prog 19 _ w1 (fun e w'=>∃Av Aa Ap Am cv ca cp cm,e= .returned (.tuple #[.agg #[.slice Av 1 cv,.slice Aa 0 ca,.slice Ap 0 cp,.slice Am 1 cm],.int .i64 0,.int .i64 0])∧TrR w' (New w1.heap.size w') False lw1 Av Aa Ap Am cv ca cp cm∧Below w1.heap.size w1 w')from h1)
 have HE:=Lib.hid he
 have HEN:=Lib.hid (And.intro h0 (And.intro hen ho))
 clear hw1 hf1 hk1 h1 he h0 hen ho
 obtain⟨S,hS⟩:∃S,S=(⟨lw0.toArray⟩:ByteArray):=⟨_,rfl⟩
 rw[←hS]at H1 ⊢
 clear hS
 go_enter Tryz.func26,Tryz.ntmps26
 go_wp2_with fail
 rw[←HW1.out]
 refine H1.out.mono ?_
 rintro _ w2 ⟨Av,Aa,Ap,Am,cv,ca,cp,cm,rfl,hT,hb⟩
 have hf2:Fr NoT w1 w2:=Fr.below hb
 obtain⟨w3,hw3⟩:∃y,y=w2.alloc (.cells #[.slice Av 1 cv,.slice Aa 0 ca,.slice Ap 0 cp,.slice Am 1 cm] 27):=⟨_,rfl⟩
 have hf3:Fr NoT w2 w3:=by rw[hw3];exact(Fr.refl _ _).alloc _
 have hf03:Fr NoT w w3:=(HF1.out.trans hf2).trans hf3
 have h3:=lw_graph w3 (New w1.heap.size w2) False Av Aa Ap Am cv ca cp cm (HE.out.keep hf03.plain).toSp (HE.out.keep hf03.plain).lex.tab (fun b hb=>Nat.lt_of_lt_of_le hb.2 hf3.size) (hT.keep (hf3.same fun b hb=>⟨hb.2,id⟩))
 have H3:=Lib.hid (show Calls Tryz.prog 20 #[.agg #[.slice Av 1 cv,.slice Aa 0 ca,.slice Ap 0 cp,.slice Am 1 cm]] w3 (fun e w'=>∃Aa Ae ca ce,e= .returned (.tuple #[.agg #[.int .i64 1,.slice Aa 0 ca,.int .i64 5,.int .i64 0,.int .i64 1,.slice Ae 5 ce],.int .i64 0])∧GrR w' (New w3.heap.size w') lwG Aa ca Ae ce∧Fr NoT w3 w')from h3)
 have HW3:=Lib.hid hw3
 have HF03:=Lib.hid hf03
 have HK3:=Lib.hid ((HK1.out.fr0 hf2).fr0 hf3)
 clear hT hb hf2 hw3 hf3 hf03 h3
 go_wp2_with fail
 rw[←HW3.out]
 go_at_call 20
 refine H3.out.mono ?_
 rintro _ w4 ⟨Ba,Be,da,de,rfl,hG4,hf4⟩
 obtain⟨w5,hw5⟩:∃y,y=w4.alloc (.cells #[.int .i64 1,.slice Ba 0 da,.int .i64 5,.int .i64 0,.int .i64 1,.slice Be 5 de] 40):=⟨_,rfl⟩
 have hf5:Fr NoT w4 w5:=by rw[hw5];exact(Fr.refl _ _).alloc _
 have hb5:Bk w5 w4.heap.size 40 #[.int .i64 1,.slice Ba 0 da,.int .i64 5,.int .i64 0,.int .i64 1,.slice Be 5 de]:=by rw[hw5];exact Bk.new _ _ _
 have hrun:=mrun_any lwG Ba Be none da de 0 [] steps w5 ((hG4.keep (hf5.same fun b hb=>⟨hb.2,id⟩)).grSl fun b hb=>Nat.lt_of_lt_of_le hb.2 hf5.size) ⟨Nat.le_refl _,by decide,fun h=>absurd h (by decide)⟩
 have H5:=Lib.hid (show Calls Tryz.prog 31 #[.agg #[.int .i64 1,.slice Ba 0 da,.int .i64 5,.int .i64 0,.int .i64 1,.slice Be 5 de],.slice none 0 0,.int .i64 steps] w5 (RunP lwG [] steps w5)from hrun)
 have HF05:=Lib.hid ((HF03.out.trans hf4).trans hf5)
 have HK5:=Lib.hid ((HK3.out.fr0 hf4).fr0 hf5)
 have HW5:=Lib.hid hw5
 have HB5:=Lib.hid hb5
 clear hG4 hf4 hw5 hf5 hb5 hrun
 have bc0:=HB5.out.cell 0
 have bc1:=HB5.out.cell 1
 have bc2:=HB5.out.cell 2
 have bc3:=HB5.out.cell 3
 have bc4:=HB5.out.cell 4
 have bc5:=HB5.out.cell 5
 have bl:=HB5.out.lt
 simp only[getsL]at bc0 bc1 bc2 bc3 bc4 bc5
 go_wp2_with fail
 rw[←HW5.out]
 go_at_call 31
 refine H5.out.mono ?_
 rintro _ w6 ⟨hf6,h6⟩
 have he0:errNo lwG ([]:List Int).length steps=0:=HEN.out.1
 rw[if_pos he0]at h6
 obtain⟨en',v,hends,hend,rfl⟩:=h6
 obtain rfl:en'=en:=(endsN_ends HEN.out.2.1).uniq _ hends
 obtain⟨b,o,cv,Al,cl,rfl,hcb,hbl,hcv⟩:=endIs_one hend HEN.out.2.2
 have hk6:=HK5.out.fr0 hf6
 have hbw:b≠w.heap.size:=fun e=>by
  subst e
  rw[hk6.cell o]at hcb
  exact zero_no HEN.out.2.2.ne o hcb
 obtain⟨k0,hk0⟩:∃k,k=en'.kind:=⟨_,rfl⟩
 obtain⟨k1,hk1⟩:∃k,k=en'.wrong:=⟨_,rfl⟩
 obtain⟨k2,hk2⟩:∃k,k=en'.at_:=⟨_,rfl⟩
 obtain⟨k3,hk3⟩:∃k,k=en'.node:=⟨_,rfl⟩
 obtain⟨k4,hk4⟩:∃k,k=en'.edge:=⟨_,rfl⟩
 obtain⟨k5,hk5⟩:∃k,k=en'.left:=⟨_,rfl⟩
 have HKK:=Lib.hid (show EndC en' b o cv Al cl= .agg #[.int .u8 k0,.int .u8 k1,.int .i64 k2,.int .i64 k3,.int .i64 k4,.int .i64 k5,.slice (some ⟨b,o,none⟩) 1 cv,.slice Al 0 cl]from by unfold EndC;rw[←hk0,←hk1,←hk2,←hk3,←hk4,←hk5])
 rw[HKK.out]
 obtain⟨w7,hw7⟩:∃y,y=(((((((w6.setCell ⟨w.heap.size,0,none⟩ (.int .u8 k0)).setCell ⟨w.heap.size,1,none⟩ (.int .u8 k1)).setCell ⟨w.heap.size,2,none⟩ (.int .i64 k2)).setCell ⟨w.heap.size,3,none⟩ (.int .i64 k3)).setCell ⟨w.heap.size,4,none⟩ (.int .i64 k4)).setCell ⟨w.heap.size,5,none⟩ (.int .i64 k5)).setCell ⟨w.heap.size,6,none⟩ (.slice (some ⟨b,o,none⟩) 1 cv)).setCell ⟨w.heap.size,7,none⟩ (.slice Al 0 cl):=⟨_,rfl⟩
 have hff0:Fr (fun i=>i=w.heap.size) w6 w7:=by rw[hw7];exact Fr.own (Fr.own (Fr.own (Fr.own (Fr.own (Fr.own (Fr.own (Fr.own (Fr.refl _ _) _ _) _ _) _ _) _ _) _ _) _ _) _ _) _ _
 have hk7:Bk w7 w.heap.size 59 #[.int .u8 k0,.int .u8 k1,.int .i64 k2,.int .i64 k3,.int .i64 k4,.int .i64 k5,.slice (some ⟨b,o,none⟩) 1 cv,.slice Al 0 cl]:=by
  have:=((((((((hk6.set_ 0 (.int .u8 k0)).set_ 1 (.int .u8 k1)).set_ 2 (.int .i64 k2)).set_ 3 (.int .i64 k3)).set_ 4 (.int .i64 k4)).set_ 5 (.int .i64 k5)).set_ 6 (.slice (some ⟨b,o,none⟩) 1 cv)).set_ 7 (.slice Al 0 cl))
  rw[hw7];simpa using this
 obtain⟨wf,hwf⟩:∃y,y=w7.alloc (.cells #[.int .u8 k0,.int .u8 k1,.int .i64 k2,.int .i64 k3,.int .i64 k4,.int .i64 k5,.slice (some ⟨b,o,none⟩) 1 cv,.slice Al 0 cl] 59):=⟨_,rfl⟩
 have hf7:Fr NoT w7 wf:=by rw[hwf];exact(Fr.refl _ _).alloc _
 have hkf:=hk7.fr0 hf7
 have hff:Fr NoT w wf:=(Fr.thenT (HF05.out.trans hf6) hff0 fun i hi e=>by have e:i=w.heap.size:=e;omega).trans hf7
 have hcf:wf.cell? ⟨b,o,none⟩=some (.int .i64 x):=(hf7.cell (p:=⟨b,o,none⟩) (Nat.lt_of_lt_of_le hbl hff0.size) id).trans ((hff0.cell (p:=⟨b,o,none⟩) hbl hbw).trans hcb)
 have HCF:=Lib.hid (And.intro hcf (And.intro (show b < wf.heap.size from Nat.lt_of_lt_of_le (Nat.lt_of_lt_of_le hbl hff0.size) hf7.size) hcv))
 have HW7:=Lib.hid hw7
 have HK6:=Lib.hid hk6
 have HWF:=Lib.hid hwf
 have HFF:=Lib.hid hff
 have HKF:=Lib.hid hkf
 clear hf6 hends hend hcb hbl hcv hbw hk6 hw7 hf7 hk7 hwf hff0 hkf hff hcf hk0 hk1 hk2 hk3 hk4 hk5 bc0 bc1 bc2 bc3 bc4 bc5 bl he0
 have kz0:=HK6.out.frozen 0
 have kz1:=HK6.out.frozen 1
 have kz2:=HK6.out.frozen 2
 have kz3:=HK6.out.frozen 3
 have kz4:=HK6.out.frozen 4
 have kz5:=HK6.out.frozen 5
 have kz6:=HK6.out.frozen 6
 have kz7:=HK6.out.frozen 7
 have kc0:=HK6.out.cell 0
 have kc1:=HK6.out.cell 1
 have kc2:=HK6.out.cell 2
 have kc3:=HK6.out.cell 3
 have kc4:=HK6.out.cell 4
 have kc5:=HK6.out.cell 5
 have kc6:=HK6.out.cell 6
 have kc7:=HK6.out.cell 7
 have kl:=HK6.out.lt
 simp only[getsL]at kc0 kc1 kc2 kc3 kc4 kc5 kc6 kc7
 go_wp2_with fail
 rw[←HW7.out,←HWF.out]
 refine bodyPost_ret (res_cell_tmp (p:=6) (q:=7) (ty:=59) rfl _ _ w.heap.size 59 _ (0,0) _ rfl HKF.out Tryz.underlying59 rfl sizeEn) rfl ?_
 refine⟨b,o,cv,Al,cl,?_,HCF.out.1,HCF.out.2.1,HCF.out.2.2,HFF.out⟩
 rw[HKK.out]
 rfl

def lwE:En:={kind:=1,wrong:=0,at_:=0,node:=1,edge:=0,left:=92,vs:= [2],ls:= []}
theorem salive_any (w:World) (he:NameEnv w):Calls Tryz.prog 28 #[] w (TruePost w):=by
 have h1:=ran_any 100 lwE 2 60 w he (by kernel_rfl) (by kernel_rfl) ⟨rfl,rfl,by decide⟩
 unfold lw0 at h1
 have H1:=Lib.hid (show Calls Tryz.prog 26 _ w (fun e w'=>∃b o cv Al cl,e= .returned (.tuple #[.agg #[.int .u8 1,.int .u8 0,.int .i64 0,.int .i64 1,.int .i64 0,.int .i64 92,.slice (some ⟨b,o,none⟩) 1 cv,.slice Al 0 cl],.bool true])∧w'.cell? ⟨b,o,none⟩=some (.int .i64 2)∧b < w'.heap.size∧1≤cv∧Fr NoT w w')from h1)
 clear h1 he
 go_enter Tryz.func28,Tryz.ntmps28
 go_wp2_with fail
 refine H1.out.mono ?_
 rintro _ w2 ⟨b,o,cv,Al,cl,rfl,hc,hbl,hcv,hf⟩
 have HF:=Lib.hid hf
 clear hf
 go_wp2_with fail
 go_ret
 exact⟨rfl,(HF.out.alloc _).plain⟩
def ApP (r v:Int) (W:World) (e:Ending) (w':World):Prop:=e= .returned (.tuple #[.int .i64 r,.int .u8 v,.int .i64 0])∧Fr NoT W w'
theorem ap_of (k a b r v:Int) (h0:4≤k) (h1:k≤11) (ha:is64 a) (hb:is64 b) (hr:opR k a b=r) (hv:opW k a b=v) (W:World):Calls Tryz.prog 27 #[.int .u8 k,.int .i64 a,.int .i64 b] W (ApP r v W):=by
 subst hr hv
 exact(apply_any k a b W h0 h1 ha hb).mono fun e w' ⟨h,hb⟩=>⟨h,Fr.below hb⟩

def lwE4:En:={kind:=2,wrong:=0,at_:=18,node:=3,edge:=2,left:=0,vs:= [1],ls:= []}
theorem snames_any (w:World) (he:NameEnv w):Calls Tryz.prog 9 #[] w (TruePost w):=by
 have h1:=ran_any 4 lwE4 1 60 w he (by kernel_rfl) (by kernel_rfl) ⟨rfl,rfl,by decide⟩
 unfold lw0 at h1
 have H1:=Lib.hid (show Calls Tryz.prog 26 _ w (fun e w'=>∃b o cv Al cl,e= .returned (.tuple #[.agg #[.int .u8 2,.int .u8 0,.int .i64 lwE4.at_,.int .i64 lwE4.node,.int .i64 lwE4.edge,.int .i64 0,.slice (some ⟨b,o,none⟩) 1 cv,.slice Al 0 cl],.bool true])∧w'.cell? ⟨b,o,none⟩=some (.int .i64 1)∧b < w'.heap.size∧1≤cv∧Fr NoT w w')from h1)
 obtain⟨k2,hk2⟩:∃k,k=lwE4.at_:=⟨_,rfl⟩
 obtain⟨k3,hk3⟩:∃k,k=lwE4.node:=⟨_,rfl⟩
 obtain⟨k4,hk4⟩:∃k,k=lwE4.edge:=⟨_,rfl⟩
 rw[←hk2,←hk3,←hk4]at H1
 have HE:=Lib.hid he
 clear h1 he hk2 hk3 hk4
 go_enter Tryz.func9,Tryz.ntmps9
 go_wp2_with fail
 refine H1.out.mono ?_
 rintro _ w2 ⟨b,o,cv,Al,cl,rfl,hc,hbl,hcv,hf⟩
 obtain⟨w3,hw3⟩:∃y,y=w2.alloc (.cells #[.int .u8 2,.int .u8 0,.int .i64 k2,.int .i64 k3,.int .i64 k4,.int .i64 0,.slice (some ⟨b,o,none⟩) 1 cv,.slice Al 0 cl] 59):=⟨_,rfl⟩
 have hf3:Fr NoT w2 w3:=by rw[hw3];exact(Fr.refl _ _).alloc _
 have hk3:Bk w3 w2.heap.size 59 #[.int .u8 2,.int .u8 0,.int .i64 k2,.int .i64 k3,.int .i64 k4,.int .i64 0,.slice (some ⟨b,o,none⟩) 1 cv,.slice Al 0 cl]:=by rw[hw3];exact Bk.new _ _ _
 have HC:=Lib.hid (And.intro hc (And.intro hbl hcv))
 have HK:=Lib.hid hk3
 have HF:=Lib.hid (hf.trans hf3)
 have HF3:=Lib.hid hf3
 have HW3:=Lib.hid hw3
 clear hc hbl hcv hf hw3 hf3 hk3
 go_wp2_with fail
 rw[←HW3.out]
 go_at_call 27
 refine(ap_of 8 (-7) 2 (-3) 0 (by decide) (by decide) (by unfold is64;decide) (by unfold is64;decide) (by decide) (by decide) w3).mono ?_
 rintro _ w4 ⟨rfl,hf4⟩
 have HF4:=Lib.hid hf4
 clear hf4
 go_wp2_with fail
 go_at_call 27
 refine(ap_of 9 (-7) 2 (-1) 0 (by decide) (by decide) (by unfold is64;decide) (by unfold is64;decide) (by decide) (by decide) w4).mono ?_
 rintro _ w5 ⟨rfl,hf5⟩
 have HF5:=Lib.hid hf5
 clear hf5
 go_wp2_with fail
 go_at_call 27
 refine(ap_of 8 1 0 0 3 (by decide) (by decide) (by unfold is64;decide) (by unfold is64;decide) (by decide) (by decide) w5).mono ?_
 rintro _ w6 ⟨rfl,hf6⟩
 have hf36:=(HF4.out.trans HF5.out).trans hf6
 have HF6:=Lib.hid (HF.out.trans hf36)
 have HAL:=Lib.hid (salive_any w6 (HE.out.keep (HF.out.trans hf36).plain))
 have HG6:=Lib.hid hf36
 clear hf6 hf36
 go_wp2_with fail
 refine HAL.out.mono ?_
 rintro _ w7 ⟨rfl,hb7⟩
 have hf7:Fr NoT w6 w7:=Fr.below hb7
 have hk7:=(HK.out.fr0 HG6.out).fr0 hf7
 have hc7:w7.cell? ⟨b,o,none⟩=some (.int .i64 1):=(((HF3.out.trans HG6.out).trans hf7).cell (p:=⟨b,o,none⟩) HC.out.2.1 id).trans HC.out.1
 have hb7':b < w7.heap.size:=Nat.lt_of_lt_of_le HC.out.2.1 ((HF3.out.trans HG6.out).trans hf7).size
 have hcv:=HC.out.2.2
 have HF7:=Lib.hid (HF6.out.trans hf7)
 have gc0:=hk7.cell 0
 have gc6:=hk7.cell 6
 have gl:=hk7.lt
 simp only[getsL]at gc0 gc6
 clear hb7 hf7 hk7
 go_wp2_with fail
 go_ret
 exact⟨rfl,HF7.out.plain⟩
end Go.Proofs.YtobegfbdedgmpaaGreatDoor
