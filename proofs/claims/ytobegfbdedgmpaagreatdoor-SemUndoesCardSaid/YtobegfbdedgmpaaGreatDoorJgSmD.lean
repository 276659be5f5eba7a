/-
  law14: the chapter's run, alive; SemNames.
-/
import Derived.Test.YtobegfbdedgmpaaGreatDoorJgFgLw
import Derived.Test.YtobegfbdedgmpaaGreatDoorJnSmR
import Derived.Test.YtobegfbdedgmpaaGreatDoorJgSrR
import Derived.Test.YtobegfbdedgmpaaGreatDoorJnOpC
import Derived.Test.YtobegfbdedgmpaaGreatDoorFlRA
set_option linter.unusedVariables false
set_option linter.unusedSimpArgs false
set_option maxHeartbeats 3200000
set_option maxRecDepth 100000
namespace Go.Proofs.YtobegfbdedgmpaaGreatDoor
open Go.RowKit Go.Shelf Go.Maps

structure OneN (en:En) (x:Int):Prop where
 vs:en.vs= [x]
 ls:en.ls= []
 ne:x≠0
def EndC (en:En) (b o cv:Nat) (Al:Option Addr) (cl:Nat):Value:= .agg #[.int .u8 en.kind,.int .u8 en.wrong,.int .i64 en.at_,.int .i64 en.node,.int .i64 en.edge,.int .i64 en.left,.slice (some ⟨b,o,none⟩) 1 cv,.slice Al 0 cl]
def RanP (en:En) (x:Int) (W:World) (e:Ending) (w':World):Prop:=∃b o cv Al cl,e= .returned (.tuple #[EndC en b o cv Al cl,.bool true])∧w'.cell? ⟨b,o,none⟩=some (.int .i64 x)∧b < w'.heap.size∧1≤cv∧Fr NoT W w'
theorem endIs_one {w:World} {en:En} {v:Value} {x:Int} (h:EndIs w en v) (ho:OneN en x):∃b o cv Al cl,v=EndC en b o cv Al cl∧w.cell? ⟨b,o,none⟩=some (.int .i64 x)∧b < w.heap.size∧1≤cv:=by
 obtain⟨Av,cv,Al,cl,rfl,hst⟩:=h
 have hv:=hst.vars
 rw[ho.vs]at hv
 obtain⟨b,o,rfl,hb,hc⟩:=hv.2.2 (by simp)
 refine⟨b,o,cv,Al,cl,?_,(hc 0 x rfl).1,hb,hv.1⟩
 unfold EndC
 rw[ho.vs,ho.ls]
 rfl
theorem zero_no {x:Int} (h:x≠0) (o:Nat):(#[.int .u8 0,.int .u8 0,.int .i64 0,.int .i64 0,.int .i64 0,.int .i64 0,.slice none 0 0,.slice none 0 0]:Array Value)[o]?≠some (.int .i64 x):=by
 intro e
 rcases(show o=0∨o=1∨o=2∨o=3∨o=4∨o=5∨o=6∨o=7∨8≤o from by omega)with rfl|rfl|rfl|rfl|rfl|rfl|rfl|rfl|h8
 all_goals first
  |(simp at e;omega)
  |(simp at e;done)
  |(rw[Array.getElem?_eq_none (by simpa using h8)]at e;cases e)
theorem sizeEn:(Tryz.prog.info? 59).map (·.size)=some 8:=by kernel_rfl
theorem ran_any (steps:Int) (en:En) (x:Int) (n:Nat) (w:World) (he:NameEnv w) (h0:errNo lwG 0 steps=0) (hen:endsN lwG n (run0 lwG [] steps)=some en) (ho:OneN en x):
  Calls Tryz.prog 26 #[.string ⟨lw0.toArray⟩,.slice none 0 0,.int .i64 steps] w (RanP en x w):=by
 obtain⟨w1,hw1⟩:∃y,y=w.alloc (.cells #[.int .u8 0,.int .u8 0,.int .i64 0,.int .i64 0,.int .i64 0,.int .i64 0,.slice none 0 0,.slice none 0 0] 59):=⟨_,rfl⟩
 have hf1:Fr NoT w w1:=by rw[hw1];exact(Fr.refl _ _).alloc _
 have hk1:Bk w1 w.heap.size 59 #[.int .u8 0,.int .u8 0,.int .i64 0,.int .i64 0,.int .i64 0,.int .i64 0,.slice none 0 0,.slice none 0 0]:=by rw[hw1];exact Bk.new _ _ _
 have h1:=lw_par w1 (he.keep hf1.plain)
 have HW1:=Lib.hid hw1
 have HF1:=Lib.hid hf1
 have HK1:=Lib.hid hk1
 have H1:=Lib.hid (show Calls Tryz.prog 19 _ w1 (fun e w'=>∃Av Aa Ap Am cv ca cp cm,e= .returned (.tuple #[.agg #[.slice Av 1 cv,.slice Aa 0 ca,.slice Ap 0 cp,.slice Am 1 cm],.int .i64 0,.int .i64 0])∧TrR w' (New w1.heap.size w') False lw1 Av Aa Ap Am cv ca cp cm∧Below w1.heap.size w1 w')from h1)
 have HE:=Lib.hid he
 have HEN:=Lib.hid (And.intro h0 (And.intro hen ho))
 clear hw1 hf1 hk1 h1 he h0 hen ho
 obtain⟨S,hS⟩:∃S,S=(⟨lw0.toArray⟩:ByteArray):=⟨_,rfl⟩
 rw[←hS]at H1 ⊢
 clear hS
 go_enter Tryz.func26,Tryz.ntmps26
 go_wp2_with fail
 rw[←HW1.out]
 refine H1.out.mono ?_
 rintro _ w2 ⟨Av,Aa,Ap,Am,cv,ca,cp,cm,rfl,hT,hb⟩
 have hf2:Fr NoT w1 w2:=Fr.below hb
 obtain⟨w3,hw3⟩:∃y,y=w2.alloc (.cells #[.slice Av 1 cv,.slice Aa 0 ca,.slice Ap 0 cp,.slice Am 1 cm] 27):=⟨_,rfl⟩
 have hf3:Fr NoT w2 w3:=by rw[hw3];exact(Fr.refl _ _).alloc _
 have hf03:Fr NoT w w3:=(HF1.out.trans hf2).trans hf3
 have h3:=lw_graph w3 (New w1.heap.size w2) False Av Aa Ap Am cv ca cp cm (HE.out.keep hf03.plain).toSp (HE.out.keep hf03.plain).lex.tab (fun b hb=>Nat.lt_of_lt_of_le hb.2 hf3.size) (hT.keep (hf3.same fun b hb=>⟨hb.2,id⟩))
 have H3:=Lib.hid (show Calls Tryz.prog 20 #[.agg #[.slice Av 1 cv,.slice Aa 0 ca,.slice Ap 0 cp,.slice Am 1 cm]] w3 (fun e w'=>∃Aa Ae ca ce,e= .returned (.tuple #[.agg #[.int .i64 1,.slice Aa 0 ca,.int .i64 5,.int .i64 0,.int .i64 1,.slice Ae 5 ce],.int .i64 0])∧GrR w' (New w3.heap.size w') lwG Aa ca Ae ce∧Fr NoT w3 w')from h3)
 have HW3:=Lib.hid hw3
 have HF03:=Lib.hid hf03
 have HK3:=Lib.hid ((HK1.out.fr0 hf2).fr0 hf3)
 clear hT hb hf2 hw3 hf3 hf03 h3
 go_wp2_with fail
 rw[←HW3.out]
 go_at_call 20
 refine H3.out.mono ?_
 rintro _ w4 ⟨Ba,Be,da,de,rfl,hG4,hf4⟩
 obtain⟨w5,hw5⟩:∃y,y=w4.alloc (.cells #[.int .i64 1,.slice Ba 0 da,.int .i64 5,.int .i64 0,.int .i64 1,.slice Be 5 de] 40):=⟨_,rfl⟩
 have hf5:Fr NoT w4 w5:=by rw[hw5];exact(Fr.refl _ _).alloc _
 have hb5:Bk w5 w4.heap.size 40 #[.int .i64 1,.slice Ba 0 da,.int .i64 5,.int .i64 0,.int .i64 1,.slice Be 5 de]:=by rw[hw5];exact Bk.new _ _ _
 have hrun:=mrun_any lwG Ba Be none da de 0 [] steps w5 ((hG4.keep (hf5.same fun b hb=>⟨hb.2,id⟩)).grSl fun b hb=>Nat.lt_of_lt_of_le hb.2 hf5.size) ⟨Nat.le_refl _,by decide,fun h=>absurd h (by decide)⟩
 have H5:=Lib.hid (show Calls Tryz.prog 31 #[.agg #[.int .i64 1,.slice Ba 0 da,.int .i64 5,.int .i64 0,.int .i64 1,.slice Be 5 de],.slice none 0 0,.int .i64 steps] w5 (RunP lwG [] steps w5)from hrun)
 have HF05:=Lib.hid ((HF03.out.trans hf4).trans hf5)
 have HK5:=Lib.hid ((HK3.out.fr0 hf4).fr0 hf5)
 have HW5:=Lib.hid hw5
 have HB5:=Lib.hid hb5
 clear hG4 hf4 hw5 hf5 hb5 hrun
 have bc0:=HB5.out.cell 0
 have bc1:=HB5.out.cell 1
 have bc2:=HB5.out.cell 2
 have bc3:=HB5.out.cell 3
 have bc4:=HB5.out.cell 4
 have bc5:=HB5.out.cell 5
 have bl:=HB5.out.lt
 simp only[getsL]at bc0 bc1 bc2 bc3 bc4 bc5
 go_wp2_with fail
 rw[←HW5.out]
 go_at_call 31
 refine H5.out.mono ?_
 rintro _ w6 ⟨hf6,h6⟩
 have he0:errNo lwG ([]:List Int).length steps=0:=HEN.out.1
 rw[if_pos he0]at h6
 obtain⟨en',v,hends,hend,rfl⟩:=h6
 obtain rfl:en'=en:=(endsN_ends HEN.out.2.1).uniq _ hends
 obtain⟨b,o,cv,Al,cl,rfl,hcb,hbl,hcv⟩:=endIs_one hend HEN.out.2.2
 have hk6:=HK5.out.fr0 hf6
 have hbw:b≠w.heap.size:=fun e=>by
  subst e
  rw[hk6.cell o]at hcb
  exact zero_no HEN.out.2.2.ne o hcb
 obtain⟨k0,hk0⟩:∃k,k=en'.kind:=⟨_,rfl⟩
 obtain⟨k1,hk1⟩:∃k,k=en'.wrong:=⟨_,rfl⟩
 obtain⟨k2,hk2⟩:∃k,k=en'.at_:=⟨_,rfl⟩
 obtain⟨k3,hk3⟩:∃k,k=en'.node:=⟨_,rfl⟩
 obtain⟨k4,hk4⟩:∃k,k=en'.edge:=⟨_,rfl⟩
 obtain⟨k5,hk5⟩:∃k,k=en'.left:=⟨_,rfl⟩
 have HKK:=Lib.hid (show EndC en' b o cv Al cl= .agg #[.int .u8 k0,.int .u8 k1,.int .i64 k2,.int .i64 k3,.int .i64 k4,.int .i64 k5,.slice (some ⟨b,o,none⟩) 1 cv,.slice Al 0 cl]from by unfold EndC;rw[←hk0,←hk1,←hk2,←hk3,←hk4,←hk5])
 rw[HKK.out]
 obtain⟨w7,hw7⟩:∃y,y=(((((((w6.setCell ⟨w.heap.size,0,none⟩ (.int .u8 k0)).setCell ⟨w.heap.size,1,none⟩ (.int .u8 k1)).setCell ⟨w.heap.size,2,none⟩ (.int .i64 k2)).setCell ⟨w.heap.size,3,none⟩ (.int .i64 k3)).setCell ⟨w.heap.size,4,none⟩ (.int .i64 k4)).setCell ⟨w.heap.size,5,none⟩ (.int .i64 k5)).setCell ⟨w.heap.size,6,none⟩ (.slice (some ⟨b,o,none⟩) 1 cv)).setCell ⟨w.heap.size,7,none⟩ (.slice Al 0 cl):=⟨_,rfl⟩
 have hff0:Fr (fun i=>i=w.heap.size) w6 w7:=by rw[hw7];exact Fr.own (Fr.own (Fr.own (Fr.own (Fr.own (Fr.own (Fr.own (Fr.own (Fr.refl _ _) _ _) _ _) _ _) _ _) _ _) _ _) _ _) _ _
 have hk7:Bk w7 w.heap.size 59 #[.int .u8 k0,.int .u8 k1,.int .i64 k2,.int .i64 k3,.int .i64 k4,.int .i64 k5,.slice (some ⟨b,o,none⟩) 1 cv,.slice Al 0 cl]:=by
  have:=((((((((hk6.set_ 0 (.int .u8 k0)).set_ 1 (.int .u8 k1)).set_ 2 (.int .i64 k2)).set_ 3 (.int .i64 k3)).set_ 4 (.int .i64 k4)).set_ 5 (.int .i64 k5)).set_ 6 (.slice (some ⟨b,o,none⟩) 1 cv)).set_ 7 (.slice Al 0 cl))
  rw[hw7];simpa using this
 obtain⟨wf,hwf⟩:∃y,y=w7.alloc (.cells #[.int .u8 k0,.int .u8 k1,.int .i64 k2,.int .i64 k3,.int .i64 k4,.int .i64 k5,.slice (some ⟨b,o,none⟩) 1 cv,.slice Al 0 cl] 59):=⟨_,rfl⟩
 have hf7:Fr NoT w7 wf:=by rw[hwf];exact(Fr.refl _ _).alloc _
 have hkf:=hk7.fr0 hf7
 have hff:Fr NoT w wf:=(Fr.thenT (HF05.out.trans hf6) hff0 fun i hi e=>by have e:i=w.heap.size:=e;omega).trans hf7
 have hcf:wf.cell? ⟨b,o,none⟩=some (.int .i64 x):=(hf7.cell (p:=⟨b,o,none⟩) (Nat.lt_of_lt_of_le hbl hff0.size) id).trans ((hff0.cell (p:=⟨b,o,none⟩) hbl hbw).trans hcb)
 have HCF:=Lib.hid (And.intro hcf (And.intro (show b < wf.heap.size from Nat.lt_of_lt_of_le (Nat.lt_of_lt_of_le hbl hff0.size) hf7.size) hcv))
 have HW7:=Lib.hid hw7
 have HK6:=Lib.hid hk6
 have HWF:=Lib.hid hwf
 have HFF:=Lib.hid hff
 have HKF:=Lib.hid hkf
 clear hf6 hends hend hcb hbl hcv hbw hk6 hw7 hf7 hk7 hwf hff0 hkf hff hcf hk0 hk1 hk2 hk3 hk4 hk5 bc0 bc1 bc2 bc3 bc4 bc5 bl he0
 have kz0:=HK6.out.frozen 0
 have kz1:=HK6.out.frozen 1
 have kz2:=HK6.out.frozen 2
 have kz3:=HK6.out.frozen 3
 have kz4:=HK6.out.frozen 4
 have kz5:=HK6.out.frozen 5
 have kz6:=HK6.out.frozen 6
 have kz7:=HK6.out.frozen 7
 have kc0:=HK6.out.cell 0
 have kc1:=HK6.out.cell 1
 have kc2:=HK6.out.cell 2
 have kc3:=HK6.out.cell 3
 have kc4:=HK6.out.cell 4
 have kc5:=HK6.out.cell 5
 have kc6:=HK6.out.cell 6
 have kc7:=HK6.out.cell 7
 have kl:=HK6.out.lt
 simp only[getsL]at kc0 kc1 kc2 kc3 kc4 kc5 kc6 kc7
 go_wp2_with fail
 rw[←HW7.out,←HWF.out]
 refine bodyPost_ret (res_cell_tmp (p:=6) (q:=7) (ty:=59) rfl _ _ w.heap.size 59 _ (0,0) _ rfl HKF.out Tryz.underlying59 rfl sizeEn) rfl ?_
 refine⟨b,o,cv,Al,cl,?_,HCF.out.1,HCF.out.2.1,HCF.out.2.2,HFF.out⟩
 rw[HKK.out]
 rfl

def lwE:En:={kind:=1,wrong:=0,at_:=0,node:=1,edge:=0,left:=92,vs:= [2],ls:= []}
theorem salive_any (w:World) (he:NameEnv w):Calls Tryz.prog 28 #[] w (TruePost w):=by
 have h1:=ran_any 100 lwE 2 60 w he (by kernel_rfl) (by kernel_rfl) ⟨rfl,rfl,by decide⟩
 unfold lw0 at h1
 have H1:=Lib.hid (show Calls Tryz.prog 26 _ w (fun e w'=>∃b o cv Al cl,e= .returned (.tuple #[.agg #[.int .u8 1,.int .u8 0,.int .i64 0,.int .i64 1,.int .i64 0,.int .i64 92,.slice (some ⟨b,o,none⟩) 1 cv,.slice Al 0 cl],.bool true])∧w'.cell? ⟨b,o,none⟩=some (.int .i64 2)∧b < w'.heap.size∧1≤cv∧Fr NoT w w')from h1)
 clear h1 he
 go_enter Tryz.func28,Tryz.ntmps28
 go_wp2_with fail
 refine H1.out.mono ?_
 rintro _ w2 ⟨b,o,cv,Al,cl,rfl,hc,hbl,hcv,hf⟩
 have HF:=Lib.hid hf
 clear hf
 go_wp2_with fail
 go_ret
 exact⟨rfl,(HF.out.alloc _).plain⟩
def ApP (r v:Int) (W:World) (e:Ending) (w':World):Prop:=e= .returned (.tuple #[.int .i64 r,.int .u8 v,.int .i64 0])∧Fr NoT W w'
theorem ap_of (k a b r v:Int) (h0:4≤k) (h1:k≤11) (ha:is64 a) (hb:is64 b) (hr:opR k a b=r) (hv:opW k a b=v) (W:World):Calls Tryz.prog 27 #[.int .u8 k,.int .i64 a,.int .i64 b] W (ApP r v W):=by
 subst hr hv
 exact(apply_any k a b W h0 h1 ha hb).mono fun e w' ⟨h,hb⟩=>⟨h,Fr.below hb⟩

theorem okR_is (n:Int):is64 (okR (fits64 n) n):=by
 unfold okR
 split
 ·rename_i h
  unfold fits64 at h
  have h2:=of_decide_eq_true h
  exact h2
 ·exact⟨by decide,by decide⟩
theorem undo_ways (a b:Int) (ha:is64 a) (hb:is64 b):opW 5 a b=2∨(opW 5 a b=0∧opW 6 (opR 5 a b) b=0∧(opR 6 (opR 5 a b) b != a)=false):=by
 show okW (fits64 (a+b))=2∨(okW (fits64 (a+b))=0∧okW (fits64 (okR (fits64 (a+b)) (a+b) - b))=0∧(okR (fits64 (okR (fits64 (a+b)) (a+b) - b)) (okR (fits64 (a+b)) (a+b) - b) != a)=false)
 cases h:fits64 (a+b)
 ·exact .inl rfl
 ·right
  have e:okR true (a+b) - b=a:=by show a+b - b=a;omega
  rw[e,fits_of ha]
  exact⟨rfl,rfl,by simp[okR]⟩
theorem cmp_opp (k a b:Int) (h0:3≤k) (h1:k≤8):cmpB (oppC k) a b= !cmpB k a b∧cmpE k=0∧cmpE (oppC k)=0:=by
 rcases(show k=3∨k=4∨k=5∨k=6∨k=7∨k=8 from by omega)with rfl|rfl|rfl|rfl|rfl|rfl
 all_goals
  refine⟨?_,rfl,rfl⟩
  rw[Bool.eq_iff_iff]
  simp[cmpB,oppC]
  try omega
theorem sundo_any (a b:Int) (w:World) (he:NameEnv w) (ha:is64 a) (hb:is64 b):Calls Tryz.prog 11 #[.int .i64 a,.int .i64 b] w (TruePost w):=by
 have hU:=undo_ways a b ha hb
 have e5:opR 5 b a=opR 5 a b:=by show okR (fits64 (b+a)) (b+a)=okR (fits64 (a+b)) (a+b);rw[Int.add_comm]
 have f5:opW 5 b a=opW 5 a b:=by show okW (fits64 (b+a))=okW (fits64 (a+b));rw[Int.add_comm]
 have e6:opR 6 0 a=opR 4 a 0:=by show okR (fits64 (0 - a)) (0 - a)=okR (fits64 (-a)) (-a);rw[Int.zero_sub]
 have f6:opW 6 0 a=opW 4 a 0:=by show okW (fits64 (0 - a))=okW (fits64 (-a));rw[Int.zero_sub]
 have hn:is64 (opR 5 a b):=okR_is (a+b)
 have h00:is64 0:=⟨by decide,by decide⟩
 obtain⟨N,hN⟩:∃N,opR 5 a b=N:=⟨_,rfl⟩
 obtain⟨D,hD⟩:∃N,opW 5 a b=N:=⟨_,rfl⟩
 obtain⟨P,hP⟩:∃N,opR 4 a 0=N:=⟨_,rfl⟩
 obtain⟨R,hR⟩:∃N,opW 4 a 0=N:=⟨_,rfl⟩
 rw[hN]at hn hU e5
 rw[hD]at hU f5
 rw[hP]at e6
 rw[hR]at f6
 obtain⟨X,hX⟩:∃x,opR 6 N b=x:=⟨_,rfl⟩
 obtain⟨Y,hY⟩:∃x,opW 6 N b=x:=⟨_,rfl⟩
 rw[hX,hY]at hU
 have H1:=Lib.hid (fun W=>ap_of 5 a b N D (by decide) (by decide) ha hb hN hD W)
 have H2:=Lib.hid (fun W=>ap_of 5 b a N D (by decide) (by decide) hb ha e5 f5 W)
 have H3:=Lib.hid (fun W=>ap_of 6 N b X Y (by decide) (by decide) hn hb hX hY W)
 have H4:=Lib.hid (fun W=>ap_of 4 a 0 P R (by decide) (by decide) ha h00 hP hR W)
 have H5:=Lib.hid (fun W=>ap_of 6 0 a P R (by decide) (by decide) h00 ha e6 f6 W)
 have HAL:=Lib.hid (salive_any w he)
 clear hN hD hP hR hX hY e5 f5 e6 f6 hn h00 ha hb he
 rcases hU with rfl|⟨rfl,rfl,z1⟩
 all_goals
  go_enter Tryz.func11,Tryz.ntmps11
  go_wp2_with fail
  refine HAL.out.mono ?_
  rintro _ w1 ⟨rfl,hb1⟩
  have HF1:=Lib.hid (show Fr NoT w w1 from Fr.below hb1)
  clear hb1
  go_wp2_with fail
  go_at_call 27
  refine(H1.out w1).mono ?_
  rintro _ w2 ⟨rfl,hf2⟩
  have HF2:=Lib.hid (HF1.out.trans hf2)
  clear hf2
  go_wp2_with fail
  go_at_call 27
  refine(H2.out w2).mono ?_
  rintro _ w3 ⟨rfl,hf3⟩
  have HF3:=Lib.hid (HF2.out.trans hf3)
  clear hf3
  go_wp2_with fail
  go_at_call 27
  refine(H3.out w3).mono ?_
  rintro _ w4 ⟨rfl,hf4⟩
  have HF4:=Lib.hid (HF3.out.trans hf4)
  clear hf4
  go_wp2_with fail
  go_at_call 27
  refine(H4.out w4).mono ?_
  rintro _ w5 ⟨rfl,hf5⟩
  have HF5:=Lib.hid (HF4.out.trans hf5)
  clear hf5
  go_wp2_with fail
  go_at_call 27
  refine(H5.out w5).mono ?_
  rintro _ w6 ⟨rfl,hf6⟩
  have HF6:=Lib.hid (HF5.out.trans hf6)
  clear hf6
  go_wp2_with fail
  go_loopw [21] (fun i wr=>∃k:Nat,3≤k∧k≤9∧i= .int .u8 k∧Hid (Fr NoT w wr)) (fun i _=>9 - (intOf i).toNat)
  case atStart=>exact⟨3,by omega,by omega,rfl,HF6⟩
  case round=>
   obtain⟨k,hk0,hk,rfl,hr⟩:=hrel
   by_cases hlt:k≤8
   ·have hlt':(k:Int)≤8:=by omega
    have hlt2:decide ((k:Int)≤8)=true:=by simpa using hlt'
    obtain⟨q1,q2,q3⟩:=cmp_opp k a b (by omega) hlt'
    obtain⟨K,hK⟩:∃K:Int,K=(k:Int):=⟨_,rfl⟩
    obtain⟨c1,hc1⟩:∃c,c=cmpB K a b:=⟨_,rfl⟩
    obtain⟨o,ho⟩:∃o,o=oppC K:=⟨_,rfl⟩
    rw[←hK]at q1 q2 q3
    rw[←ho]at q1 q3
    rw[←hc1]at q1
    have HC1:=Lib.hid (fun W=>(compare_any K a b W).mono (fun e w' h=>(show e= .returned (.tuple #[.bool c1,.int .i64 0])∧W=w' from by rw[hc1,←q2];exact h)))
    have HC2:=Lib.hid (fun W=>(compare_any o a b W).mono (fun e w' h=>(show e= .returned (.tuple #[.bool (!c1),.int .i64 0])∧W=w' from by rw[←q1,←q3];exact h)))
    have HOP:=Lib.hid (fun W=>(ropp_any K W (by omega) (by omega)).mono (fun e w' h=>(show e= .returned (.int .u8 o)∧Fr NoT W w' from⟨by rw[ho];exact h.1,Fr.below h.2⟩)))
    rw[hK]at HC1 HOP
    clear hc1 ho q1 q2 q3 hK
    go_wp2_with fail
    go_at_call 29
    refine(HC1.out _).mono ?_
    rintro _ _ ⟨rfl,rfl⟩
    go_wp2_with fail
    go_at_call 30
    refine(HOP.out _).mono ?_
    rintro _ w8 ⟨rfl,hf8⟩
    have HF8:=Lib.hid (hr.out.trans hf8)
    clear hf8
    go_wp2_with fail
    go_at_call 29
    refine(HC2.out _).mono ?_
    rintro _ _ ⟨rfl,rfl⟩
    cases c1
    all_goals
     go_wp2_with fail
     go_roundw
     case rel=>exact⟨k+1,by omega,by omega,by go_num,HF8⟩
     case measure=>simp[intOf];omega
   ·have hlt':¬(k:Int)≤8:=by omega
    have hlt2:decide ((k:Int)≤8)=false:=by simpa using hlt'
    go_wp2_with fail
    go_ret
    exact⟨rfl,hr.out.plain⟩
end Go.Proofs.YtobegfbdedgmpaaGreatDoor
