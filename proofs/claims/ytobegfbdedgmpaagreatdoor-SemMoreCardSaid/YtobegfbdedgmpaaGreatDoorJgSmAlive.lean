/-
  law14: the chapter's run, alive; SemNames.
-/
import Derived.Test.YtobegfbdedgmpaaGreatDoorJgFgLw
import Derived.Test.YtobegfbdedgmpaaGreatDoorJnSmR
import Derived.Test.YtobegfbdedgmpaaGreatDoorJgSrR
import Derived.Test.YtobegfbdedgmpaaGreatDoorFlGreat
set_option linter.unusedVariables false
set_option linter.unusedSimpArgs false
set_option maxHeartbeats 6400000
set_option maxRecDepth 100000
namespace Go.Proofs.YtobegfbdedgmpaaGreatDoor
open Go.RowKit Go.Shelf Go.Maps

structure OneN (en:En) (x:Int):Prop where
 vs:en.vs= [x]
 ls:en.ls= []
 ne:x≠0
def EndC (en:En) (b o cv:Nat) (Al:Option Addr) (cl:Nat):Value:= .agg #[.int .u8 en.kind,.int .u8 en.wrong,.int .i64 en.at_,.int .i64 en.node,.int .i64 en.edge,.int .i64 en.left,.slice (some ⟨b,o,none⟩) 1 cv,.slice Al 0 cl]
def RanP (en:En) (x:Int) (W:World) (e:Ending) (w':World):Prop:=∃b o cv Al cl,e= .returned (.tuple #[EndC en b o cv Al cl,.bool true])∧w'.cell? ⟨b,o,none⟩=some (.int .i64 x)∧b < w'.heap.size∧1≤cv∧Fr NoT W w'
theorem endIs_one {w:World} {en:En} {v:Value} {x:Int} (h:EndIs w en v) (ho:OneN en x):∃b o cv Al cl,v=EndC en b o cv Al cl∧w.cell? ⟨b,o,none⟩=some (.int .i64 x)∧b < w.heap.size∧1≤cv:=by
 obtain⟨Av,cv,Al,cl,rfl,hst⟩:=h
 have hv:=hst.vars
 rw[ho.vs]at hv
 obtain⟨b,o,rfl,hb,hc⟩:=hv.2.2 (by simp)
 refine⟨b,o,cv,Al,cl,?_,(hc 0 x rfl).1,hb,hv.1⟩
 unfold EndC
 rw[ho.vs,ho.ls]
 rfl
theorem zero_no {x:Int} (h:x≠0) (o:Nat):(#[.int .u8 0,.int .u8 0,.int .i64 0,.int .i64 0,.int .i64 0,.int .i64 0,.slice none 0 0,.slice none 0 0]:Array Value)[o]?≠some (.int .i64 x):=by
 intro e
 rcases(show o=0∨o=1∨o=2∨o=3∨o=4∨o=5∨o=6∨o=7∨8≤o from by omega)with rfl|rfl|rfl|rfl|rfl|rfl|rfl|rfl|h8
 all_goals first
  |(simp at e;omega)
  |(simp at e;done)
  |(rw[Array.getElem?_eq_none (by simpa using h8)]at e;cases e)
theorem sizeEn:(Tryz.prog.info? 59).map (·.size)=some 8:=by kernel_rfl
theorem ran_any (steps:Int) (en:En) (x:Int) (n:Nat) (w:World) (he:NameEnv w) (h0:errNo lwG 0 steps=0) (hen:endsN lwG n (run0 lwG [] steps)=some en) (ho:OneN en x):
  Calls Tryz.prog 26 #[.string ⟨lw0.toArray⟩,.slice none 0 0,.int .i64 steps] w (RanP en x w):=by
 obtain⟨w1,hw1⟩:=nmq (w.alloc (.cells #[.int .u8 0,.int .u8 0,.int .i64 0,.int .i64 0,.int .i64 0,.int .i64 0,.slice none 0 0,.slice none 0 0] 59))
 have hf1:Fr NoT w w1:=by rw[hw1];exact(Fr.refl _ _).alloc _
 have hk1:Bk w1 w.heap.size 59 #[.int .u8 0,.int .u8 0,.int .i64 0,.int .i64 0,.int .i64 0,.int .i64 0,.slice none 0 0,.slice none 0 0]:=by rw[hw1];exact Bk.new _ _ _
 have h1:=lw_par w1 (he.keep hf1.plain)
 have HW1:=hdq hw1
 have HF1:=hdq hf1
 have HK1:=hdq hk1
 have H1:=hdq (show Calls Tryz.prog 19 _ w1 (fun e w'=>∃Av Aa Ap Am cv ca cp cm,e= .returned (.tuple #[.agg #[.slice Av 1 cv,.slice Aa 0 ca,.slice Ap 0 cp,.slice Am 1 cm],.int .i64 0,.int .i64 0])∧TrR w' (New w1.heap.size w') False lw1 Av Aa Ap Am cv ca cp cm∧Below w1.heap.size w1 w')from h1)
 have HE:=hdq he
 have HEN:=hdq (And.intro h0 (And.intro hen ho))
 clear hw1 hf1 hk1 h1 he h0 hen ho
 obtain⟨S,hS⟩:=nmq ((⟨lw0.toArray⟩:ByteArray))
 rw[←hS]at H1 ⊢
 clear hS
 go_enter Tryz.func26,Tryz.ntmps26
 go_wp2_with fail
 rw[←HW1.out]
 refine H1.out.mono ?_
 rintro _ w2 ⟨Av,Aa,Ap,Am,cv,ca,cp,cm,rfl,hT,hb⟩
 have hf2:Fr NoT w1 w2:=Fr.below hb
 obtain⟨w3,hw3⟩:=nmq (w2.alloc (.cells #[.slice Av 1 cv,.slice Aa 0 ca,.slice Ap 0 cp,.slice Am 1 cm] 27))
 have hf3:Fr NoT w2 w3:=by rw[hw3];exact(Fr.refl _ _).alloc _
 have hf03:Fr NoT w w3:=(HF1.out.trans hf2).trans hf3
 have h3:=lw_graph w3 (New w1.heap.size w2) False Av Aa Ap Am cv ca cp cm (HE.out.keep hf03.plain).toSp (HE.out.keep hf03.plain).lex.tab (fun b hb=>Nat.lt_of_lt_of_le hb.2 hf3.size) (hT.keep (hf3.same fun b hb=>⟨hb.2,id⟩))
 have H3:=hdq (show Calls Tryz.prog 20 #[.agg #[.slice Av 1 cv,.slice Aa 0 ca,.slice Ap 0 cp,.slice Am 1 cm]] w3 (fun e w'=>∃Aa Ae ca ce,e= .returned (.tuple #[.agg #[.int .i64 1,.slice Aa 0 ca,.int .i64 5,.int .i64 0,.int .i64 1,.slice Ae 5 ce],.int .i64 0])∧GrR w' (New w3.heap.size w') lwG Aa ca Ae ce∧Fr NoT w3 w')from h3)
 have HW3:=hdq hw3
 have HF03:=hdq hf03
 have HK3:=hdq ((HK1.out.fr0 hf2).fr0 hf3)
 clear hT hb hf2 hw3 hf3 hf03 h3
 go_wp2_with fail
 rw[←HW3.out]
 go_at_call 20
 refine H3.out.mono ?_
 rintro _ w4 ⟨Ba,Be,da,de,rfl,hG4,hf4⟩
 obtain⟨w5,hw5⟩:=nmq (w4.alloc (.cells #[.int .i64 1,.slice Ba 0 da,.int .i64 5,.int .i64 0,.int .i64 1,.slice Be 5 de] 40))
 have hf5:Fr NoT w4 w5:=by rw[hw5];exact(Fr.refl _ _).alloc _
 have hb5:Bk w5 w4.heap.size 40 #[.int .i64 1,.slice Ba 0 da,.int .i64 5,.int .i64 0,.int .i64 1,.slice Be 5 de]:=by rw[hw5];exact Bk.new _ _ _
 have hrun:=mrun_any lwG Ba Be none da de 0 [] steps w5 ((hG4.keep (hf5.same fun b hb=>⟨hb.2,id⟩)).grSl fun b hb=>Nat.lt_of_lt_of_le hb.2 hf5.size) ⟨Nat.le_refl _,by decide,fun h=>absurd h (by decide)⟩
 have H5:=hdq (show Calls Tryz.prog 31 #[.agg #[.int .i64 1,.slice Ba 0 da,.int .i64 5,.int .i64 0,.int .i64 1,.slice Be 5 de],.slice none 0 0,.int .i64 steps] w5 (RunP lwG [] steps w5)from hrun)
 have HF05:=hdq ((HF03.out.trans hf4).trans hf5)
 have HK5:=hdq ((HK3.out.fr0 hf4).fr0 hf5)
 have HW5:=hdq hw5
 have HB5:=hdq hb5
 clear hG4 hf4 hw5 hf5 hb5 hrun
 have bc0:=HB5.out.cell 0
 have bc1:=HB5.out.cell 1
 have bc2:=HB5.out.cell 2
 have bc3:=HB5.out.cell 3
 have bc4:=HB5.out.cell 4
 have bc5:=HB5.out.cell 5
 have bl:=HB5.out.lt
 simp only[getsL]at bc0 bc1 bc2 bc3 bc4 bc5
 go_wp2_with fail
 rw[←HW5.out]
 go_at_call 31
 refine H5.out.mono ?_
 rintro _ w6 ⟨hf6,h6⟩
 have he0:errNo lwG ([]:List Int).length steps=0:=HEN.out.1
 rw[if_pos he0]at h6
 obtain⟨en',v,hends,hend,rfl⟩:=h6
 obtain rfl:en'=en:=(endsN_ends HEN.out.2.1).uniq _ hends
 obtain⟨b,o,cv,Al,cl,rfl,hcb,hbl,hcv⟩:=endIs_one hend HEN.out.2.2
 have hk6:=HK5.out.fr0 hf6
 have hbw:b≠w.heap.size:=fun e=>by
  subst e
  rw[hk6.cell o]at hcb
  exact zero_no HEN.out.2.2.ne o hcb
 obtain⟨k0,hk0⟩:=nmq en'.kind
 obtain⟨k1,hk1⟩:=nmq en'.wrong
 obtain⟨k2,hk2⟩:=nmq en'.at_
 obtain⟨k3,hk3⟩:=nmq en'.node
 obtain⟨k4,hk4⟩:=nmq en'.edge
 obtain⟨k5,hk5⟩:=nmq en'.left
 have HKK:=hdq (show EndC en' b o cv Al cl= .agg #[.int .u8 k0,.int .u8 k1,.int .i64 k2,.int .i64 k3,.int .i64 k4,.int .i64 k5,.slice (some ⟨b,o,none⟩) 1 cv,.slice Al 0 cl]from by unfold EndC;rw[←hk0,←hk1,←hk2,←hk3,←hk4,←hk5])
 rw[HKK.out]
 obtain⟨w7,hw7⟩:=nmq ((((((((w6.setCell ⟨w.heap.size,0,none⟩ (.int .u8 k0)).setCell ⟨w.heap.size,1,none⟩ (.int .u8 k1)).setCell ⟨w.heap.size,2,none⟩ (.int .i64 k2)).setCell ⟨w.heap.size,3,none⟩ (.int .i64 k3)).setCell ⟨w.heap.size,4,none⟩ (.int .i64 k4)).setCell ⟨w.heap.size,5,none⟩ (.int .i64 k5)).setCell ⟨w.heap.size,6,none⟩ (.slice (some ⟨b,o,none⟩) 1 cv)).setCell ⟨w.heap.size,7,none⟩ (.slice Al 0 cl))
 have hff0:Fr (fun i=>i=w.heap.size) w6 w7:=by rw[hw7];exact Fr.own (Fr.own (Fr.own (Fr.own (Fr.own (Fr.own (Fr.own (Fr.own (Fr.refl _ _) _ _) _ _) _ _) _ _) _ _) _ _) _ _) _ _
 have hk7:Bk w7 w.heap.size 59 #[.int .u8 k0,.int .u8 k1,.int .i64 k2,.int .i64 k3,.int .i64 k4,.int .i64 k5,.slice (some ⟨b,o,none⟩) 1 cv,.slice Al 0 cl]:=by
  have:=((((((((hk6.set_ 0 (.int .u8 k0)).set_ 1 (.int .u8 k1)).set_ 2 (.int .i64 k2)).set_ 3 (.int .i64 k3)).set_ 4 (.int .i64 k4)).set_ 5 (.int .i64 k5)).set_ 6 (.slice (some ⟨b,o,none⟩) 1 cv)).set_ 7 (.slice Al 0 cl))
  rw[hw7];simpa using this
 obtain⟨wf,hwf⟩:=nmq (w7.alloc (.cells #[.int .u8 k0,.int .u8 k1,.int .i64 k2,.int .i64 k3,.int .i64 k4,.int .i64 k5,.slice (some ⟨b,o,none⟩) 1 cv,.slice Al 0 cl] 59))
 have hf7:Fr NoT w7 wf:=by rw[hwf];exact(Fr.refl _ _).alloc _
 have hkf:=hk7.fr0 hf7
 have hff:Fr NoT w wf:=(Fr.thenT (HF05.out.trans hf6) hff0 fun i hi e=>by have e:i=w.heap.size:=e;omega).trans hf7
 have hcf:wf.cell? ⟨b,o,none⟩=some (.int .i64 x):=(hf7.cell (p:=⟨b,o,none⟩) (Nat.lt_of_lt_of_le hbl hff0.size) id).trans ((hff0.cell (p:=⟨b,o,none⟩) hbl hbw).trans hcb)
 have HCF:=hdq (And.intro hcf (And.intro (show b < wf.heap.size from Nat.lt_of_lt_of_le (Nat.lt_of_lt_of_le hbl hff0.size) hf7.size) hcv))
 have HW7:=hdq hw7
 have HK6:=hdq hk6
 have HWF:=hdq hwf
 have HFF:=hdq hff
 have HKF:=hdq hkf
 clear hf6 hends hend hcb hbl hcv hbw hk6 hw7 hf7 hk7 hwf hff0 hkf hff hcf hk0 hk1 hk2 hk3 hk4 hk5 bc0 bc1 bc2 bc3 bc4 bc5 bl he0
 have kz0:=HK6.out.frozen 0
 have kz1:=HK6.out.frozen 1
 have kz2:=HK6.out.frozen 2
 have kz3:=HK6.out.frozen 3
 have kz4:=HK6.out.frozen 4
 have kz5:=HK6.out.frozen 5
 have kz6:=HK6.out.frozen 6
 have kz7:=HK6.out.frozen 7
 have kc0:=HK6.out.cell 0
 have kc1:=HK6.out.cell 1
 have kc2:=HK6.out.cell 2
 have kc3:=HK6.out.cell 3
 have kc4:=HK6.out.cell 4
 have kc5:=HK6.out.cell 5
 have kc6:=HK6.out.cell 6
 have kc7:=HK6.out.cell 7
 have kl:=HK6.out.lt
 simp only[getsL]at kc0 kc1 kc2 kc3 kc4 kc5 kc6 kc7
 go_wp2_with fail
 rw[←HW7.out,←HWF.out]
 refine bodyPost_ret (res_cell_tmp (p:=6) (q:=7) (ty:=59) rfl _ _ w.heap.size 59 _ (0,0) _ rfl HKF.out Tryz.underlying59 rfl sizeEn) rfl ?_
 refine⟨b,o,cv,Al,cl,?_,HCF.out.1,HCF.out.2.1,HCF.out.2.2,HFF.out⟩
 rw[HKK.out]
 rfl

def lwE:En:={kind:=1,wrong:=0,at_:=0,node:=1,edge:=0,left:=92,vs:= [2],ls:= []}
theorem salive_any (w:World) (he:NameEnv w):Calls Tryz.prog 28 #[] w (TruePost w):=by
 have h1:=ran_any 100 lwE 2 60 w he (by kernel_rfl) (by kernel_rfl) ⟨rfl,rfl,by decide⟩
 unfold lw0 at h1
 have H1:=hdq (show Calls Tryz.prog 26 _ w (fun e w'=>∃b o cv Al cl,e= .returned (.tuple #[.agg #[.int .u8 1,.int .u8 0,.int .i64 0,.int .i64 1,.int .i64 0,.int .i64 92,.slice (some ⟨b,o,none⟩) 1 cv,.slice Al 0 cl],.bool true])∧w'.cell? ⟨b,o,none⟩=some (.int .i64 2)∧b < w'.heap.size∧1≤cv∧Fr NoT w w')from h1)
 clear h1 he
 go_enter Tryz.func28,Tryz.ntmps28
 go_wp2_with fail
 refine H1.out.mono ?_
 rintro _ w2 ⟨b,o,cv,Al,cl,rfl,hc,hbl,hcv,hf⟩
 have HF:=hdq hf
 clear hf
 go_wp2_with fail
 go_ret
 exact⟨rfl,(HF.out.alloc _).plain⟩

theorem errNo_more {g:Gr} {n:Nat} {a b:Int} (ha:0≤a∧a≤65536) (hb:0≤b∧b≤65536):errNo g n a=errNo g n b:=by
 unfold errNo
 rw[if_neg (show ¬(a < 0∨65536 < a)from by omega),if_neg (show ¬(b < 0∨65536 < b)from by omega)]
theorem run0_more (g:Gr) (script:List Int) {a b:Int} (ha:0≤a) (hb:0≤b):run0 g script (a+b)=(run0 g script a).more b.toNat:=by
 unfold run0 Rs.more
 rw[Int.toNat_add ha hb]
def MoreRun (g:Gr) (Aa Ae As:Option Addr) (na ne ns ca ce cs:Nat) (script:List Int) (w:World):Prop:=
 ∀(st:Int) (W:World),Fr NoT w W→Calls Tryz.prog 31 #[.agg #[.int .i64 g.vars,.slice Aa na ca,.int .i64 g.nodes,.int .i64 g.start,.int .i64 g.last,.slice Ae ne ce],.slice As ns cs,.int .i64 st] W (RunN g script st W)
theorem moreRun (g:Gr) (Aa Ae As:Option Addr) (na ne ns ca ce cs:Nat) (script:List Int) (w:World) (hna:na=g.arrays.length) (hne:ne=g.edges.length) (hns:ns=script.length) (hg:GrSl w w.heap.size g Aa ca Ae ce) (hs:IsSl w w.heap.size script As cs):MoreRun g Aa Ae As na ne ns ca ce cs script w:=by
 subst hna hne hns
 exact fun st W hf=>mrun_new g Aa Ae As ca ce cs script st W ((hg.keep (Same.of_fr hf (Nat.le_refl _) fun _ h=>h.elim)).up hf.size) ((hs.keep (Same.of_fr hf (Nat.le_refl _) fun _ h=>h.elim)).up hf.size)
theorem sto_far {w w':World} {L:Nat} {vs:List Int} {ls:List (List Int)} {bv:Nat} {A:Option Addr} {c:Nat} {bs:List Nat} {U:Nat→Prop} (h:Sto w L vs ls bv A c bs) (hf:Fr U w w') (hU:∀b,U b→b < L∨w.heap.size≤b):Sto w' L vs ls bv A c bs:=by
 refine h.fr hf (fun e=>?_) (fun b hb e=>?_) fun b hb e=>?_
 ·have:=hU _ e
  have:=h.vl
  have:=h.v.lt
  omega
 ·have:=hU _ e
  have:=h.lo2 b hb
  obtain⟨j,hj⟩:=List.getElem?_of_mem hb
  have hjl:j < ls.length:=by rw[←h.len];exact(List.getElem?_eq_some_iff.1 hj).1
  have:=(h.each j b _ hj (List.getElem?_eq_getElem hjl)).2.lt
  omega
 ·have:=hU _ e
  have:=h.row.lt b hb
  omega
theorem more_any (g:Gr) (Aa Ae As:Option Addr) (ca ce cs:Nat) (script:List Int) (steps more:Int) (w:World) (he:NameEnv w) (hg:GrSl w w.heap.size g Aa ca Ae ce) (hs:IsSl w w.heap.size script As cs):
  Calls Tryz.prog 12 #[grV g.vars Aa g.arrays.length ca g.nodes g.start g.last Ae g.edges.length ce,.slice As script.length cs,.int .i64 steps,.int .i64 more] w (TruePost w):=by
 have hla:=Nat.le_trans hg.arrays.1 hg.arrays.2.1
 have hls:=Nat.le_trans hs.1 hs.2.1
 have hgr:=fun(W:World) (hf:Fr NoT w W)=>great_any g.vars Aa g.arrays.length ca g.nodes g.start g.last g.edges Ae ce w.heap.size W hf.size (hg.edges.keep (Same.of_fr hf (Nat.le_refl _) fun _ h=>h.elim)) hla
 unfold grV at hgr ⊢
 obtain⟨na,hna⟩:=nmq g.arrays.length
 obtain⟨ne,hne⟩:=nmq g.edges.length
 obtain⟨ns,hns⟩:=nmq script.length
 have HRUN:=hdq (moreRun g Aa Ae As na ne ns ca ce cs script w hna hne hns hg hs)
 rw[←hna,←hne]at hgr
 rw[←hns]at hls
 rw[←hna,←hne,←hns]
 obtain⟨w1,hw1⟩:=nmq (w.alloc (.cells #[.int .i64 g.vars,.slice Aa na ca,.int .i64 g.nodes,.int .i64 g.start,.int .i64 g.last,.slice Ae ne ce] 40))
 have hf1:Fr NoT w w1:=by rw[hw1];exact(Fr.refl _ _).alloc _
 have hk1:Bk w1 w.heap.size 40 #[.int .i64 g.vars,.slice Aa na ca,.int .i64 g.nodes,.int .i64 g.start,.int .i64 g.last,.slice Ae ne ce]:=by rw[hw1];exact Bk.new _ _ _
 have HAL:=hdq (salive_any w1 (he.keep hf1.plain))
 have HGR:=hdq hgr
 have HNS:=hdq hns
 have HW1:=hdq hw1
 have HF1:=hdq hf1
 have HK1:=hdq hk1
 clear hg hs hgr hna hne hns hw1 hf1 hk1 hla he
 go_enter Tryz.func12,Tryz.ntmps12
 go_wp2_with fail
 rw[←HW1.out]
 refine HAL.out.mono ?_
 rintro _ w2 ⟨rfl,hb2⟩
 have hf2:=HF1.out.trans (Fr.below hb2:Fr NoT w1 w2)
 have hk2:=HK1.out.fr0 (Fr.below hb2:Fr NoT w1 w2)
 have HF2:=hdq hf2
 have HK2:=hdq hk2
 clear hb2 hf2 hk2
 have gc0:=HK2.out.cell 0
 have gc1:=HK2.out.cell 1
 have gc2:=HK2.out.cell 2
 have gc3:=HK2.out.cell 3
 have gc4:=HK2.out.cell 4
 have gc5:=HK2.out.cell 5
 have gl:=HK2.out.lt
 simp only[getsL]at gc0 gc1 gc2 gc3 gc4 gc5
 go_wp2_with fail
 go_at_call 24
 refine(HGR.out w2 HF2.out).mono ?_
 rintro _ w3 ⟨b,rfl,hb3⟩
 have hf23:Fr NoT w2 w3:=Fr.below hb3
 have HF3:=hdq (HF2.out.trans hf23)
 have HK3:=hdq (HK2.out.fr0 hf23)
 clear hb3 hf23 gc0 gc1 gc2 gc3 gc4 gc5 gl
 rcases(show b=true∨(b=false∧(10000:Int) < (ns:Int))∨(b=false∧¬(10000:Int) < (ns:Int)∧steps < 0)∨(b=false∧¬(10000:Int) < (ns:Int)∧¬steps < 0∧2000 < steps)∨(b=false∧¬(10000:Int) < (ns:Int)∧¬steps < 0∧¬2000 < steps∧more < 0)∨(b=false∧¬(10000:Int) < (ns:Int)∧¬steps < 0∧¬2000 < steps∧¬more < 0∧2000 < more)∨(b=false∧¬(10000:Int) < (ns:Int)∧¬steps < 0∧¬2000 < steps∧¬more < 0∧¬2000 < more)from by cases b<;>simp<;>omega)with rfl|⟨rfl,g1⟩|⟨rfl,g1,g2⟩|⟨rfl,g1,g2,g3⟩|⟨rfl,g1,g2,g3,g4⟩|⟨rfl,g1,g2,g3,g4,g5⟩|⟨rfl,g1,g2,g3,g4,g5⟩
 ·
  go_wp2_with fail
  go_ret
  exact⟨rfl,HF3.out.plain⟩
 ·
  go_wp2_with fail
  go_ret
  exact⟨rfl,HF3.out.plain⟩
 ·
  go_wp2_with fail
  go_ret
  exact⟨rfl,HF3.out.plain⟩
 ·
  go_wp2_with fail
  go_ret
  exact⟨rfl,HF3.out.plain⟩
 ·
  go_wp2_with fail
  go_ret
  exact⟨rfl,HF3.out.plain⟩
 ·
  go_wp2_with fail
  go_ret
  exact⟨rfl,HF3.out.plain⟩
 ·
  have gc0:=HK3.out.cell 0
  have gc1:=HK3.out.cell 1
  have gc2:=HK3.out.cell 2
  have gc3:=HK3.out.cell 3
  have gc4:=HK3.out.cell 4
  have gc5:=HK3.out.cell 5
  have gl:=HK3.out.lt
  simp only[getsL]at gc0 gc1 gc2 gc3 gc4 gc5
  go_wp2_with fail
  go_at_call 31
  refine(HRUN.out steps w3 HF3.out).mono ?_
  rintro _ w4 ⟨hf4,h4⟩
  have hsum:wrap64 (steps+more)=steps+more:=by unfold wrap64;omega
  have HSUM:=hdq hsum
  have hf34:=HF3.out.trans hf4
  have hk4:=HK3.out.fr0 hf4
  clear hsum gc0 gc1 gc2 gc3 gc4 gc5 gl
  by_cases h0:errNo g script.length steps=0
  ·
   have HE0:=hdq h0
   rw[if_pos h0]at h4
   obtain⟨en,v,hends,hkend,rfl⟩:=h4
   obtain⟨kb,kn,kA,kc,ks,rfl,hkn,hkst⟩:=hkend
   obtain⟨kl,hkl⟩:=nmq en.ls.length
   obtain⟨k0,hk0⟩:=nmq en.kind
   obtain⟨k1,hk1⟩:=nmq en.wrong
   obtain⟨k2,hk2⟩:=nmq en.at_
   obtain⟨k3,hk3⟩:=nmq en.node
   obtain⟨k4,hk4⟩:=nmq en.edge
   obtain⟨k5,hk5⟩:=nmq en.left
   have HkE:=hdq (show kn=en.vs.length∧kl=en.ls.length∧k0=en.kind∧k1=en.wrong∧k2=en.at_∧k3=en.node∧k4=en.edge∧k5=en.left from⟨hkn,hkl,hk0,hk1,hk2,hk3,hk4,hk5⟩)
   rw[←hk0,←hk1,←hk2,←hk3,←hk4,←hk5,←hkl,←hkn]
   have HkST:=hdq hkst
   clear hkn hkl hk0 hk1 hk2 hk3 hk4 hk5 hkst
   obtain⟨w5,hw5⟩:=nmq (w4.alloc (.cells #[.int .u8 k0,.int .u8 k1,.int .i64 k2,.int .i64 k3,.int .i64 k4,.int .i64 k5,.slice (some ⟨kb,0,none⟩) kn kn,.slice kA kl kc] 59))
   have hf5:Fr NoT w4 w5:=by rw[hw5];exact(Fr.refl _ _).alloc _
   have hb5:Bk w5 w4.heap.size 59 #[.int .u8 k0,.int .u8 k1,.int .i64 k2,.int .i64 k3,.int .i64 k4,.int .i64 k5,.slice (some ⟨kb,0,none⟩) kn kn,.slice kA kl kc]:=by rw[hw5];exact Bk.new _ _ _
   have hz5:w5.heap.size=w4.heap.size+1:=by rw[hw5];simp
   have hk5:=hk4.fr0 hf5
   have hf05:=hf34.trans hf5
   have HENDS:=hdq hends
   have HW5:=hdq hw5
   have HB5:=hdq hb5
   have HF5:=hdq hf05
   have HF45:=hdq hf5
   have HZ5:=hdq hz5
   have HK5:=hdq hk5
   have HK4:=hdq hk4
   have HFW4:=hdq hf34
   clear hends hw5 hb5 hf05 hf5 hz5 hk5 h0 hf34 hf4 hk4
   have jc0:=HK4.out.cell 0
   have jc1:=HK4.out.cell 1
   have jc2:=HK4.out.cell 2
   have jc3:=HK4.out.cell 3
   have jc4:=HK4.out.cell 4
   have jc5:=HK4.out.cell 5
   have jl:=HK4.out.lt
   simp only[getsL]at jc0 jc1 jc2 jc3 jc4 jc5
   have gc0:=HK5.out.cell 0
   have gc1:=HK5.out.cell 1
   have gc2:=HK5.out.cell 2
   have gc3:=HK5.out.cell 3
   have gc4:=HK5.out.cell 4
   have gc5:=HK5.out.cell 5
   have gl:=HK5.out.lt
   simp only[getsL]at gc0 gc1 gc2 gc3 gc4 gc5
   go_wp2_with fail
   rw[←HW5.out]
   clear jc0 jc1 jc2 jc3 jc4 jc5 jl
   go_at_call 31
   have hrun:=HRUN.out
   unfold MoreRun at hrun
   with_reducible refine(hrun _ w5 HF5.out).mono ?_
   clear hrun
   rintro _ w6 ⟨hf6,h6⟩
   try rw[HSUM.out]at h6
   rw[if_pos (by rw[errNo_more (b:=steps) (by omega) (by omega)];exact HE0.out)]at h6
   obtain⟨en2,v2,hends2,hmend,rfl⟩:=h6
   have hmo:=HENDS.out.more more.toNat
   rw[←run0_more g script (by omega) (by omega)]at hmo
   obtain⟨mb,mn,mA,mc,ms,rfl,hmn,hmst⟩:=hmend
   obtain⟨ml,hml⟩:=nmq en2.ls.length
   obtain⟨m0,hm0⟩:=nmq en2.kind
   obtain⟨m1,hm1⟩:=nmq en2.wrong
   obtain⟨m2,hm2⟩:=nmq en2.at_
   obtain⟨m3,hm3⟩:=nmq en2.node
   obtain⟨m4,hm4⟩:=nmq en2.edge
   obtain⟨m5,hm5⟩:=nmq en2.left
   have HmE:=hdq (show mn=en2.vs.length∧ml=en2.ls.length∧m0=en2.kind∧m1=en2.wrong∧m2=en2.at_∧m3=en2.node∧m4=en2.edge∧m5=en2.left from⟨hmn,hml,hm0,hm1,hm2,hm3,hm4,hm5⟩)
   rw[←hm0,←hm1,←hm2,←hm3,←hm4,←hm5,←hml,←hmn]
   have HmST:=hdq hmst
   clear hmn hml hm0 hm1 hm2 hm3 hm4 hm5 hmst
   obtain⟨w7,hw7⟩:=nmq (w6.alloc (.cells #[.int .u8 m0,.int .u8 m1,.int .i64 m2,.int .i64 m3,.int .i64 m4,.int .i64 m5,.slice (some ⟨mb,0,none⟩) mn mn,.slice mA ml mc] 59))
   have hf7:Fr NoT w6 w7:=by rw[hw7];exact(Fr.refl _ _).alloc _
   have hb7:Bk w7 w6.heap.size 59 #[.int .u8 m0,.int .u8 m1,.int .i64 m2,.int .i64 m3,.int .i64 m4,.int .i64 m5,.slice (some ⟨mb,0,none⟩) mn mn,.slice mA ml mc]:=by rw[hw7];exact Bk.new _ _ _
   have hk7:=HB5.out.fr0 (hf6.trans hf7)
   have hleft:0≤k5∧k5≤steps:=by
    have h1:=HENDS.out.left_le
    have h2:((run0 g script steps).left :Int)=steps:=by show(steps.toNat:Int)=steps;omega
    have h3:=HENDS.out.left_ge
    have h4:=HkE.out.2.2.2.2.2.2.2
    omega
   have HLEFT:=hdq hleft
   have HW7:=hdq hw7
   have HB7:=hdq hb7
   have HK6:=hdq (HB5.out.fr0 hf6)
   have HK7:=hdq hk7
   have HF7:=hdq (HF5.out.trans (hf6.trans hf7))
   have HF67:=hdq (show Fr NoT w5 w6∧Fr NoT w6 w7 from⟨hf6,hf7⟩)
   have HMO:=hdq hmo
   have HENDS2:=hdq hends2
   clear hw7 hb7 hk7 hf6 hf7 hmo hends2 hleft gc0 gc1 gc2 gc3 gc4 gc5 gl
   by_cases h2:k0=2
   ·
    have hr:=HMO.out.2 (by rw[←HkE.out.2.2.1];exact h2)
    have hk50:k5=0:=by rw[HkE.out.2.2.2.2.2.2.2];exact hr.1
    have hm5:m5≤more:=by
     have:=hr.2 _ HENDS2.out
     have:=HmE.out.2.2.2.2.2.2.2
     omega
    clear hr
    subst h2 hk50
    have kc0:=HK6.out.cell 0
    have kc1:=HK6.out.cell 1
    have kc2:=HK6.out.cell 2
    have kc3:=HK6.out.cell 3
    have kc4:=HK6.out.cell 4
    have kc5:=HK6.out.cell 5
    have kc6:=HK6.out.cell 6
    have kc7:=HK6.out.cell 7
    have kl:=HK6.out.lt
    simp only[getsL]at kc0 kc1 kc2 kc3 kc4 kc5 kc6 kc7
    go_wp2_with fail
    rw[←HW7.out]
    go_ret
    exact⟨rfl,HF7.out.plain⟩
   ·
    have he2:en2=en.more more.toNat:=(HMO.out.1 (by rw[←HkE.out.2.2.1];exact h2)).uniq _ HENDS2.out
    have hw64:wrap64 (k5+more)=en2.left:=by
     rw[he2]
     have h4:=HkE.out.2.2.2.2.2.2.2
     have h5:=HLEFT.out
     show wrap64 (k5+more)=en.left+((more.toNat:Nat):Int)
     unfold wrap64
     omega
    have hal:(w6.setCell ⟨w4.heap.size,5,none⟩ (.int .i64 (wrap64 (k5+more)))).alloc (.cells #[.int .u8 m0,.int .u8 m1,.int .i64 m2,.int .i64 m3,.int .i64 m4,.int .i64 m5,.slice (some ⟨mb,0,none⟩) mn mn,.slice mA ml mc] 59)=w7.setCell ⟨w4.heap.size,5,none⟩ (.int .i64 (wrap64 (k5+more))):=by
     rw[HW7.out]
     exact(World.setCell_alloc_past _ _ _ _ HK6.out.lt).symm
    obtain⟨w8,hw8⟩:=nmq (w7.setCell ⟨w4.heap.size,5,none⟩ (.int .i64 (wrap64 (k5+more))))
    have hf8:Fr (fun i=>i=w4.heap.size) w7 w8:=by rw[hw8];exact Fr.own (Fr.refl _ _) _ _
    have hst1:=sto_far HkST.out (((HF45.out.trans HF67.out.1).trans HF67.out.2).any.trans hf8) (fun b e=> .inr (by have e:b=w4.heap.size:=e;omega))
    have hst2:=sto_far HmST.out (HF67.out.2.any.trans hf8) (fun b e=> .inl (by have e:b=w4.heap.size:=e;have:=HZ5.out;omega))
    have hk8:Bk w8 w4.heap.size 59 #[.int .u8 k0,.int .u8 k1,.int .i64 k2,.int .i64 k3,.int .i64 k4,.int .i64 (wrap64 (k5+more)),.slice (some ⟨kb,0,none⟩) kn kn,.slice kA kl kc]:=by
     have:=HK7.out.set_ 5 (.int .i64 (wrap64 (k5+more)))
     rw[hw8];simpa using this
    have hb8:Bk w8 w6.heap.size 59 #[.int .u8 m0,.int .u8 m1,.int .i64 m2,.int .i64 m3,.int .i64 m4,.int .i64 m5,.slice (some ⟨mb,0,none⟩) mn mn,.slice mA ml mc]:=HB7.out.fr hf8 (fun e=>by have e:w6.heap.size=w4.heap.size:=e;have:=HF67.out.1.size;have:=HZ5.out;omega)
    have he1:EndIs w8 en2 (.agg #[.int .u8 k0,.int .u8 k1,.int .i64 k2,.int .i64 k3,.int .i64 k4,.int .i64 (wrap64 (k5+more)),.slice (some ⟨kb,0,none⟩) kn kn,.slice kA kl kc]):=by
     obtain⟨q1,q2,q3,q4,q5,q6,q7,q8⟩:=HkE.out
     rw[hw64]
     subst he2
     exact⟨_,_,_,_,by rw[q1,q2,q3,q4,q5,q6,q7];rfl,by first|exact hst1.stSl|(rw[q1];exact hst1.stSl)⟩
    have he3:EndIs w8 en2 (.agg #[.int .u8 m0,.int .u8 m1,.int .i64 m2,.int .i64 m3,.int .i64 m4,.int .i64 m5,.slice (some ⟨mb,0,none⟩) mn mn,.slice mA ml mc]):=by
     obtain⟨q1,q2,q3,q4,q5,q6,q7,q8⟩:=HmE.out
     exact⟨_,_,_,_,by rw[q1,q2,q3,q4,q5,q6,q7,q8],by first|exact hst2.stSl|(rw[q1];exact hst2.stSl)⟩
    have hsame:=same_ends he1 he3
    rw[enEq_refl]at hsame
    have HSAME:=hdq hsame
    have HK8:=hdq hk8
    have HB8:=hdq hb8
    have HW8:=hdq hw8
    have HF8:=hdq (Fr.thenT HF7.out hf8 fun i hi e=>by have e:i=w4.heap.size:=e;have:=HF3.out.size;have:=HF45.out.size;have:=HF5.out.size;have:=HZ5.out;have:=HFW4.out.size;omega)
    clear hst1 hst2 hk8 hb8 he1 he3 hsame hw8 hf8 hw64 he2
    have kz5:=HK6.out.frozen 5
    have kc0:=HK6.out.cell 0
    have kc1:=HK6.out.cell 1
    have kc2:=HK6.out.cell 2
    have kc3:=HK6.out.cell 3
    have kc4:=HK6.out.cell 4
    have kc5:=HK6.out.cell 5
    have kc6:=HK6.out.cell 6
    have kc7:=HK6.out.cell 7
    have kl:=HK6.out.lt
    simp only[getsL]at kc0 kc1 kc2 kc3 kc4 kc5 kc6 kc7
    have HAL8:=hdq hal
    clear hal
    go_wp2_with fail
    rw[HAL8.out,←HW8.out]
    go_at_call 32
    refine HSAME.out.mono ?_
    rintro _ w9 ⟨rfl,hb9⟩
    have HB9:=hdq hb9
    clear hb9
    go_wp2_with fail
    go_ret
    exact⟨rfl,(HF8.out.trans (Fr.below HB9.out)).plain⟩
  ·
   have hE:¬errNo g script.length steps=0:=h0
   rw[if_neg h0]at h4
   subst h4
   obtain⟨E,hEE⟩:=nmq (errNo g script.length steps)
   rw[←hEE]at hE ⊢
   have HEE:=hdq hEE
   have z1:(E != 0)=true:=by simpa using hE
   have z2:(E != E)=false:=by simp
   have HE:=hdq hE
   obtain⟨w5,hw5⟩:=nmq (w4.alloc (.cells #[.int .u8 0,.int .u8 0,.int .i64 0,.int .i64 0,.int .i64 0,.int .i64 0,.slice none 0 0,.slice none 0 0] 59))
   have hf5:Fr NoT w4 w5:=by rw[hw5];exact(Fr.refl _ _).alloc _
   have hb5:Bk w5 w4.heap.size 59 #[.int .u8 0,.int .u8 0,.int .i64 0,.int .i64 0,.int .i64 0,.int .i64 0,.slice none 0 0,.slice none 0 0]:=by rw[hw5];exact Bk.new _ _ _
   have hk5:=hk4.fr0 hf5
   have hf05:=hf34.trans hf5
   have HW5:=hdq hw5
   have HB5:=hdq hb5
   have HF5:=hdq hf05
   have HK5:=hdq hk5
   have HK4:=hdq hk4
   clear hw5 hb5 hf05 hf5 hk5 h0 hf34 hf4 hk4 hEE hE
   unfold zeroEnd
   have jc0:=HK4.out.cell 0
   have jc1:=HK4.out.cell 1
   have jc2:=HK4.out.cell 2
   have jc3:=HK4.out.cell 3
   have jc4:=HK4.out.cell 4
   have jc5:=HK4.out.cell 5
   have jl:=HK4.out.lt
   simp only[getsL]at jc0 jc1 jc2 jc3 jc4 jc5
   have gc0:=HK5.out.cell 0
   have gc1:=HK5.out.cell 1
   have gc2:=HK5.out.cell 2
   have gc3:=HK5.out.cell 3
   have gc4:=HK5.out.cell 4
   have gc5:=HK5.out.cell 5
   have gl:=HK5.out.lt
   simp only[getsL]at gc0 gc1 gc2 gc3 gc4 gc5
   go_wp2_with fail
   rw[←HW5.out]
   clear jc0 jc1 jc2 jc3 jc4 jc5 jl
   go_at_call 31
   have hrun:=HRUN.out
   unfold MoreRun at hrun
   with_reducible refine(hrun _ w5 HF5.out).mono ?_
   clear hrun
   rintro _ w6 ⟨hf6,h6⟩
   try rw[HSUM.out]at h6
   have e6:errNo g script.length (steps+more)=E:=by rw[HEE.out];exact errNo_more (by omega) (by omega)
   rw[if_neg (by rw[e6];exact HE.out),e6]at h6
   subst h6
   unfold zeroEnd
   obtain⟨w7,hw7⟩:=nmq (w6.alloc (.cells #[.int .u8 0,.int .u8 0,.int .i64 0,.int .i64 0,.int .i64 0,.int .i64 0,.slice none 0 0,.slice none 0 0] 59))
   have hf7:Fr NoT w6 w7:=by rw[hw7];exact(Fr.refl _ _).alloc _
   have HB6:=hdq (HB5.out.fr0 hf6)
   have HW7:=hdq hw7
   have HF7:=hdq (HF5.out.trans (hf6.trans hf7))
   clear hw7 hf6 hf7 gc0 gc1 gc2 gc3 gc4 gc5 gl e6
   have mc0:=HB6.out.cell 0
   have mc1:=HB6.out.cell 1
   have mc2:=HB6.out.cell 2
   have mc3:=HB6.out.cell 3
   have mc4:=HB6.out.cell 4
   have mc5:=HB6.out.cell 5
   have mc6:=HB6.out.cell 6
   have mc7:=HB6.out.cell 7
   have ml:=HB6.out.lt
   simp only[getsL]at mc0 mc1 mc2 mc3 mc4 mc5 mc6 mc7
   go_wp2_with fail
   rw[←HW7.out]
   go_ret
   exact⟨rfl,HF7.out.plain⟩
end Go.Proofs.YtobegfbdedgmpaaGreatDoor
