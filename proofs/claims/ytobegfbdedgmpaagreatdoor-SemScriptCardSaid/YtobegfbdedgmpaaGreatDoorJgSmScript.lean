/-
  law14: the chapter's run, alive; SemNames.
-/
import Derived.Test.YtobegfbdedgmpaaGreatDoorJgFgLw
import Derived.Test.YtobegfbdedgmpaaGreatDoorJnSmR
import Derived.Test.YtobegfbdedgmpaaGreatDoorJgSrS
import Derived.Test.YtobegfbdedgmpaaGreatDoorFlGreat
import Derived.Test.YtobegfbdedgmpaaGreatDoorJnInC
import Derived.Deep.AppendLies
import Derived.Deep.DeepCutAuto
set_option linter.unusedVariables false
set_option linter.unusedSimpArgs false
set_option maxHeartbeats 12800000
set_option maxRecDepth 100000
namespace Go.Proofs.YtobegfbdedgmpaaGreatDoor
open Go.RowKit Go.Shelf Go.Maps

structure OneN (en:En) (x:Int):Prop where
 vs:en.vs= [x]
 ls:en.ls= []
 ne:x≠0
def EndC (en:En) (b o cv:Nat) (Al:Option Addr) (cl:Nat):Value:= .agg #[.int .u8 en.kind,.int .u8 en.wrong,.int .i64 en.at_,.int .i64 en.node,.int .i64 en.edge,.int .i64 en.left,.slice (some ⟨b,o,none⟩) 1 cv,.slice Al 0 cl]
def RanP (en:En) (x:Int) (W:World) (e:Ending) (w':World):Prop:=∃b o cv Al cl,e= .returned (.tuple #[EndC en b o cv Al cl,.bool true])∧w'.cell? ⟨b,o,none⟩=some (.int .i64 x)∧b < w'.heap.size∧1≤cv∧Fr NoT W w'
theorem zkE {w:World} {en:En} {v:Value} {x:Int} (h:EndIs w en v) (ho:OneN en x):∃b o cv Al cl,v=EndC en b o cv Al cl∧w.cell? ⟨b,o,none⟩=some (.int .i64 x)∧b < w.heap.size∧1≤cv:=by
 obtain⟨Av,cv,Al,cl,rfl,hst⟩:=h
 have hv:=hst.vars
 rw[ho.vs]at hv
 obtain⟨b,o,rfl,hb,hc⟩:=hv.2.2 (by simp)
 refine⟨b,o,cv,Al,cl,?_,(hc 0 x rfl).1,hb,hv.1⟩
 unfold EndC
 rw[ho.vs,ho.ls]
 rfl
theorem znH {x:Int} (h:x≠0) (o:Nat):(#[.int .u8 0,.int .u8 0,.int .i64 0,.int .i64 0,.int .i64 0,.int .i64 0,.slice none 0 0,.slice none 0 0]:Array Value)[o]?≠some (.int .i64 x):=by
 intro e
 rcases(show o=0∨o=1∨o=2∨o=3∨o=4∨o=5∨o=6∨o=7∨8≤o from by omega)with rfl|rfl|rfl|rfl|rfl|rfl|rfl|rfl|h8
 all_goals first
  |(simp at e;omega)
  |(simp at e;done)
  |(rw[Array.getElem?_eq_none (by simpa using h8)]at e;cases e)
theorem zoT:(Tryz.prog.info? 59).map (·.size)=some 8:=by kernel_rfl
theorem znI (steps:Int) (en:En) (x:Int) (n:Nat) (w:World) (he:NameEnv w) (h0:zbd lwG 0 steps=0) (hen:zl1 lwG n (run0 lwG [] steps)=some en) (ho:OneN en x):
  Calls Tryz.prog 26 #[.string ⟨lw0.toArray⟩,.slice none 0 0,.int .i64 steps] w (RanP en x w):=by
 obtain⟨w1,hw1⟩:=nmq (w.alloc (.cells #[.int .u8 0,.int .u8 0,.int .i64 0,.int .i64 0,.int .i64 0,.int .i64 0,.slice none 0 0,.slice none 0 0] 59))
 have hf1:Fr NoT w w1:=by rw[hw1];exact(Fr.refl _ _).alloc _
 have hk1:Bk w1 w.heap.size 59 #[.int .u8 0,.int .u8 0,.int .i64 0,.int .i64 0,.int .i64 0,.int .i64 0,.slice none 0 0,.slice none 0 0]:=by rw[hw1];exact Bk.new _ _ _
 have h1:=zoM w1 (he.keep hf1.plain)
 have HW1:=hdq hw1
 have HF1:=hdq hf1
 have HK1:=hdq hk1
 have H1:=hdq (show Calls Tryz.prog 19 _ w1 (fun e w'=>∃Av Aa Ap Am cv ca cp cm,e= .returned (.tuple #[.agg #[.slice Av 1 cv,.slice Aa 0 ca,.slice Ap 0 cp,.slice Am 1 cm],.int .i64 0,.int .i64 0])∧TrR w' (New w1.heap.size w') False lw1 Av Aa Ap Am cv ca cp cm∧Below w1.heap.size w1 w')from h1)
 have HE:=hdq he
 have HEN:=hdq (And.intro h0 (And.intro hen ho))
 clear hw1 hf1 hk1 h1 he h0 hen ho
 obtain⟨S,hS⟩:=nmq ((⟨lw0.toArray⟩:ByteArray))
 rw[←hS]at H1 ⊢
 clear hS
 go_enter Tryz.func26,Tryz.ntmps26
 go_wp2_with fail
 rw[←HW1.out]
 refine H1.out.mono ?_
 rintro _ w2 ⟨Av,Aa,Ap,Am,cv,ca,cp,cm,rfl,hT,hb⟩
 have hf2:Fr NoT w1 w2:=Fr.below hb
 obtain⟨w3,hw3⟩:=nmq (w2.alloc (.cells #[.slice Av 1 cv,.slice Aa 0 ca,.slice Ap 0 cp,.slice Am 1 cm] 27))
 have hf3:Fr NoT w2 w3:=by rw[hw3];exact(Fr.refl _ _).alloc _
 have hf03:Fr NoT w w3:=(HF1.out.trans hf2).trans hf3
 have h3:=zlJ w3 (New w1.heap.size w2) False Av Aa Ap Am cv ca cp cm (HE.out.keep hf03.plain).toSp (HE.out.keep hf03.plain).lex.tab (fun b hb=>Nat.lt_of_lt_of_le hb.2 hf3.size) (hT.keep (hf3.same fun b hb=>⟨hb.2,id⟩))
 have H3:=hdq (show Calls Tryz.prog 20 #[.agg #[.slice Av 1 cv,.slice Aa 0 ca,.slice Ap 0 cp,.slice Am 1 cm]] w3 (fun e w'=>∃Aa Ae ca ce,e= .returned (.tuple #[.agg #[.int .i64 1,.slice Aa 0 ca,.int .i64 5,.int .i64 0,.int .i64 1,.slice Ae 5 ce],.int .i64 0])∧GrR w' (New w3.heap.size w') lwG Aa ca Ae ce∧Fr NoT w3 w')from h3)
 have HW3:=hdq hw3
 have HF03:=hdq hf03
 have HK3:=hdq ((HK1.out.fr0 hf2).fr0 hf3)
 clear hT hb hf2 hw3 hf3 hf03 h3
 go_wp2_with fail
 rw[←HW3.out]
 go_at_call 20
 refine H3.out.mono ?_
 rintro _ w4 ⟨Ba,Be,da,de,rfl,hG4,hf4⟩
 obtain⟨w5,hw5⟩:=nmq (w4.alloc (.cells #[.int .i64 1,.slice Ba 0 da,.int .i64 5,.int .i64 0,.int .i64 1,.slice Be 5 de] 40))
 have hf5:Fr NoT w4 w5:=by rw[hw5];exact(Fr.refl _ _).alloc _
 have hb5:Bk w5 w4.heap.size 40 #[.int .i64 1,.slice Ba 0 da,.int .i64 5,.int .i64 0,.int .i64 1,.slice Be 5 de]:=by rw[hw5];exact Bk.new _ _ _
 have hrun:=zlZ lwG Ba Be none da de 0 [] steps w5 ((hG4.keep (hf5.same fun b hb=>⟨hb.2,id⟩)).grSl fun b hb=>Nat.lt_of_lt_of_le hb.2 hf5.size) ⟨Nat.le_refl _,by decide,fun h=>absurd h (by decide)⟩
 have H5:=hdq (show Calls Tryz.prog 31 #[.agg #[.int .i64 1,.slice Ba 0 da,.int .i64 5,.int .i64 0,.int .i64 1,.slice Be 5 de],.slice none 0 0,.int .i64 steps] w5 (RunP lwG [] steps w5)from hrun)
 have HF05:=hdq ((HF03.out.trans hf4).trans hf5)
 have HK5:=hdq ((HK3.out.fr0 hf4).fr0 hf5)
 have HW5:=hdq hw5
 have HB5:=hdq hb5
 clear hG4 hf4 hw5 hf5 hb5 hrun
 have bc0:=HB5.out.cell 0
 have bc1:=HB5.out.cell 1
 have bc2:=HB5.out.cell 2
 have bc3:=HB5.out.cell 3
 have bc4:=HB5.out.cell 4
 have bc5:=HB5.out.cell 5
 have bl:=HB5.out.lt
 simp only[getsL]at bc0 bc1 bc2 bc3 bc4 bc5
 go_wp2_with fail
 rw[←HW5.out]
 go_at_call 31
 refine H5.out.mono ?_
 rintro _ w6 ⟨hf6,h6⟩
 have he0:zbd lwG ([]:List Int).length steps=0:=HEN.out.1
 rw[if_pos he0]at h6
 obtain⟨en',v,hends,hend,rfl⟩:=h6
 obtain rfl:en'=en:=(zes HEN.out.2.1).uniq _ hends
 obtain⟨b,o,cv,Al,cl,rfl,hcb,hbl,hcv⟩:=zkE hend HEN.out.2.2
 have hk6:=HK5.out.fr0 hf6
 have hbw:b≠w.heap.size:=fun e=>by
  subst e
  rw[hk6.cell o]at hcb
  exact znH HEN.out.2.2.ne o hcb
 obtain⟨k0,hk0⟩:=nmq en'.kind
 obtain⟨k1,hk1⟩:=nmq en'.wrong
 obtain⟨k2,hk2⟩:=nmq en'.at_
 obtain⟨k3,hk3⟩:=nmq en'.node
 obtain⟨k4,hk4⟩:=nmq en'.edge
 obtain⟨k5,hk5⟩:=nmq en'.left
 have HKK:=hdq (show EndC en' b o cv Al cl= .agg #[.int .u8 k0,.int .u8 k1,.int .i64 k2,.int .i64 k3,.int .i64 k4,.int .i64 k5,.slice (some ⟨b,o,none⟩) 1 cv,.slice Al 0 cl]from by unfold EndC;rw[←hk0,←hk1,←hk2,←hk3,←hk4,←hk5])
 rw[HKK.out]
 obtain⟨w7,hw7⟩:=nmq ((((((((w6.setCell ⟨w.heap.size,0,none⟩ (.int .u8 k0)).setCell ⟨w.heap.size,1,none⟩ (.int .u8 k1)).setCell ⟨w.heap.size,2,none⟩ (.int .i64 k2)).setCell ⟨w.heap.size,3,none⟩ (.int .i64 k3)).setCell ⟨w.heap.size,4,none⟩ (.int .i64 k4)).setCell ⟨w.heap.size,5,none⟩ (.int .i64 k5)).setCell ⟨w.heap.size,6,none⟩ (.slice (some ⟨b,o,none⟩) 1 cv)).setCell ⟨w.heap.size,7,none⟩ (.slice Al 0 cl))
 have hff0:Fr (fun i=>i=w.heap.size) w6 w7:=by rw[hw7];exact Fr.own (Fr.own (Fr.own (Fr.own (Fr.own (Fr.own (Fr.own (Fr.own (Fr.refl _ _) _ _) _ _) _ _) _ _) _ _) _ _) _ _) _ _
 have hk7:Bk w7 w.heap.size 59 #[.int .u8 k0,.int .u8 k1,.int .i64 k2,.int .i64 k3,.int .i64 k4,.int .i64 k5,.slice (some ⟨b,o,none⟩) 1 cv,.slice Al 0 cl]:=by
  have:=((((((((hk6.set_ 0 (.int .u8 k0)).set_ 1 (.int .u8 k1)).set_ 2 (.int .i64 k2)).set_ 3 (.int .i64 k3)).set_ 4 (.int .i64 k4)).set_ 5 (.int .i64 k5)).set_ 6 (.slice (some ⟨b,o,none⟩) 1 cv)).set_ 7 (.slice Al 0 cl))
  rw[hw7];simpa using this
 obtain⟨wf,hwf⟩:=nmq (w7.alloc (.cells #[.int .u8 k0,.int .u8 k1,.int .i64 k2,.int .i64 k3,.int .i64 k4,.int .i64 k5,.slice (some ⟨b,o,none⟩) 1 cv,.slice Al 0 cl] 59))
 have hf7:Fr NoT w7 wf:=by rw[hwf];exact(Fr.refl _ _).alloc _
 have hkf:=hk7.fr0 hf7
 have hff:Fr NoT w wf:=(Fr.thenT (HF05.out.trans hf6) hff0 fun i hi e=>by have e:i=w.heap.size:=e;omega).trans hf7
 have hcf:wf.cell? ⟨b,o,none⟩=some (.int .i64 x):=(hf7.cell (p:=⟨b,o,none⟩) (Nat.lt_of_lt_of_le hbl hff0.size) id).trans ((hff0.cell (p:=⟨b,o,none⟩) hbl hbw).trans hcb)
 have HCF:=hdq (And.intro hcf (And.intro (show b < wf.heap.size from Nat.lt_of_lt_of_le (Nat.lt_of_lt_of_le hbl hff0.size) hf7.size) hcv))
 have HW7:=hdq hw7
 have HK6:=hdq hk6
 have HWF:=hdq hwf
 have HFF:=hdq hff
 have HKF:=hdq hkf
 clear hf6 hends hend hcb hbl hcv hbw hk6 hw7 hf7 hk7 hwf hff0 hkf hff hcf hk0 hk1 hk2 hk3 hk4 hk5 bc0 bc1 bc2 bc3 bc4 bc5 bl he0
 have kz0:=HK6.out.frozen 0
 have kz1:=HK6.out.frozen 1
 have kz2:=HK6.out.frozen 2
 have kz3:=HK6.out.frozen 3
 have kz4:=HK6.out.frozen 4
 have kz5:=HK6.out.frozen 5
 have kz6:=HK6.out.frozen 6
 have kz7:=HK6.out.frozen 7
 have kc0:=HK6.out.cell 0
 have kc1:=HK6.out.cell 1
 have kc2:=HK6.out.cell 2
 have kc3:=HK6.out.cell 3
 have kc4:=HK6.out.cell 4
 have kc5:=HK6.out.cell 5
 have kc6:=HK6.out.cell 6
 have kc7:=HK6.out.cell 7
 have kl:=HK6.out.lt
 simp only[getsL]at kc0 kc1 kc2 kc3 kc4 kc5 kc6 kc7
 go_wp2_with fail
 rw[←HW7.out,←HWF.out]
 refine bodyPost_ret (zaC (p:=6) (q:=7) (ty:=59) rfl _ _ w.heap.size 59 _ (0,0) _ rfl HKF.out Tryz.underlying59 rfl zoT) rfl ?_
 refine⟨b,o,cv,Al,cl,?_,HCF.out.1,HCF.out.2.1,HCF.out.2.2,HFF.out⟩
 rw[HKK.out]
 rfl

def lwE:En:={kind:=1,wrong:=0,at_:=0,node:=1,edge:=0,left:=92,vs:= [2],ls:= []}
theorem ziv (w:World) (he:NameEnv w):Calls Tryz.prog 28 #[] w (zhi w):=by
 have h1:=znI 100 lwE 2 60 w he (by kernel_rfl) (by kernel_rfl) ⟨rfl,rfl,by decide⟩
 unfold lw0 at h1
 have H1:=hdq (show Calls Tryz.prog 26 _ w (fun e w'=>∃b o cv Al cl,e= .returned (.tuple #[.agg #[.int .u8 1,.int .u8 0,.int .i64 0,.int .i64 1,.int .i64 0,.int .i64 92,.slice (some ⟨b,o,none⟩) 1 cv,.slice Al 0 cl],.bool true])∧w'.cell? ⟨b,o,none⟩=some (.int .i64 2)∧b < w'.heap.size∧1≤cv∧Fr NoT w w')from h1)
 clear h1 he
 go_enter Tryz.func28,Tryz.ntmps28
 go_wp2_with fail
 refine H1.out.mono ?_
 rintro _ w2 ⟨b,o,cv,Al,cl,rfl,hc,hbl,hcv,hf⟩
 have HF:=hdq hf
 clear hf
 go_wp2_with fail
 go_ret
 exact⟨rfl,(HF.out.alloc _).plain⟩

def znJ (g:Gr) (Aa Ae As:Option Addr) (na ne ns ca ce cs:Nat) (script:List Int) (w:World):Prop:=
 ∀(st:Int) (W:World),Fr NoT w W→Calls Tryz.prog 31 #[.agg #[.int .i64 g.vars,.slice Aa na ca,.int .i64 g.nodes,.int .i64 g.start,.int .i64 g.last,.slice Ae ne ce],.slice As ns cs,.int .i64 st] W (RunN g script st W)
theorem znK (g:Gr) (Aa Ae As:Option Addr) (na ne ns ca ce cs:Nat) (script:List Int) (w:World) (hna:na=g.arrays.length) (hne:ne=g.edges.length) (hns:ns=script.length) (hg:GrSl w w.heap.size g Aa ca Ae ce) (hs:IsSl w w.heap.size script As cs):znJ g Aa Ae As na ne ns ca ce cs script w:=by
 subst hna hne hns
 exact fun st W hf=>ze0 g Aa Ae As ca ce cs script st W ((hg.keep (Same.of_fr hf (Nat.le_refl _) fun _ h=>h.elim)).up hf.size) ((hs.keep (Same.of_fr hf (Nat.le_refl _) fun _ h=>h.elim)).up hf.size)
theorem znL {w w':World} {L:Nat} {vs:List Int} {ls:List (List Int)} {bv:Nat} {A:Option Addr} {c:Nat} {bs:List Nat} {U:Nat→Prop} (h:Sto w L vs ls bv A c bs) (hf:Fr U w w') (hU:∀b,U b→b < L∨w.heap.size≤b):Sto w' L vs ls bv A c bs:=by
 refine h.fr hf (fun e=>?_) (fun b hb e=>?_) fun b hb e=>?_
 ·have:=hU _ e
  have:=h.vl
  have:=h.v.lt
  omega
 ·have:=hU _ e
  have:=h.lo2 b hb
  obtain⟨j,hj⟩:=List.getElem?_of_mem hb
  have hjl:j < ls.length:=by rw[←h.len];exact(List.getElem?_eq_some_iff.1 hj).1
  have:=(h.each j b _ hj (List.getElem?_eq_getElem hjl)).2.lt
  omega
 ·have:=hU _ e
  have:=h.row.lt b hb
  omega

open Go.RowKit Go.Shelf

theorem znM {w:World} {B:Nat} {l:List Int} {ad:Addr} {c:Nat} (h:IsSl w B l (some ad) c):∀j u,(intL l)[j]?=some u→w.cell? (ad.add j)=some u:=by
 intro j u hj
 rw[intL,List.getElem?_map]at hj
 cases hsj:l[j]? with
 |none=>rw[hsj]at hj;simp at hj
 |some n=>
  rw[hsj]at hj
  simp only[Option.map_some,Option.some.injEq]at hj
  subst hj
  have hjl:=(List.getElem?_eq_some_iff.1 hsj).1
  obtain⟨bs,os,e,hat⟩:=h.2.2 (by omega)
  cases e
  have e1:(⟨bs,os,none⟩:Addr).add j=⟨bs,os+j,none⟩:=by unfold Addr.add;split<;>simp_all
  rw[e1]
  exact(hat.2 j n hsj).1
theorem zf3 {ops:Array Oper} {o:Oper} {a:Act} {K:Act→World→Prop} {Q:Exit→Act→World→Prop} {E:Prop} {w:World} (hgd:o.guard=none) (s x:Operand) (t:TypeId)
  (ho:o.op= .call {callee:= .builtin .append,args:= #[s,x],argTypes:= #[t,t]}) (ht:Tryz.prog.underlying t=some (.slice 3)) (base:Nat) (v:Value) (n:Nat) (ys:List Value) (hs:a.eval s=v) (hown:w.ownsRow base 3 1 v n ys)
  {l:List Int} {As:Option Addr} {c m B:Nat} (hm:m=l.length) (hx:a.eval x= .slice As m c) (hsl:IsSl w B l As c) (hnil:As=none→c=0) (hn:n+m≤100000) (hbase:base≤w.heap.size)
  (h:∀v' w',w'.ownsRow base 3 1 v' (n+m) (ys++intL l)→w.grownBy w' v.ownBlock→K (a.put o.dst v') w'):
  if Region.wanted o (yielded ops a.tmps)=true then Oper.wp Tryz.prog o a w K Q else E:=by
 have hw:Region.wanted o (yielded ops a.tmps)=true:=by simp[Region.wanted,hgd]
 rw[if_pos hw]
 obtain⟨i0,hi0,hz0,hz1,hz2⟩:=info_parts zgK
 cases As with
 |none=>
  have h0:l.length=0:=by
   rcases Nat.eq_zero_or_pos l.length with h0|h0
   ·exact h0
   ·obtain⟨b,o,e,_⟩:=hsl.2.2 h0;cases e
  have hl:l= []:=List.eq_nil_of_length_eq_zero h0
  subst hl
  have hm0:m=0:=hm
  subst hm0
  rw[hnil rfl]at hx
  have hrun:=run_append_owned_none (P:=Tryz.prog) (w:=w) base t o.type 3 i0 1 ht hi0 v n ys hown
  unfold Oper.wp
  simp[execOp,ho,resolve,invoke,builtin,hs,hx,hrun,Result.andThen]
  have:=h v w (by simpa[intL]using hown) ⟨rfl,rfl,rfl,Nat.le_refl _,fun _ _ _=>rfl⟩
  exact this
 |some ad=>
  exact wp_append_own w s x t ho base 3 i0 (.int .i64 0) 1 8 ht hi0 hz0 hz1 hz2 rfl (by decide) v n ys hs hown ad m c (intL l) hx (by simp[intL,hm]) (znM hsl) (fun u hu=>by simp only[intL,List.mem_map]at hu;obtain⟨q,_,rfl⟩:=hu;rfl) (by unfold maxLen;omega) (by omega) hbase fun v' w' h2 h3 _=>h v' w' h2 h3
theorem RunN.form {g:Gr} {script:List Int} {steps:Int} {w w':World} {e:Ending} (h:RunN g script steps w e w'):∃(m0 m1 m2 m3 m4 m5:Int) (A6 A7:Option Addr) (n6 c6 n7 c7:Nat),
  e= .returned (.tuple #[.agg #[.int .u8 m0,.int .u8 m1,.int .i64 m2,.int .i64 m3,.int .i64 m4,.int .i64 m5,.slice A6 n6 c6,.slice A7 n7 c7],.int .i64 (zbd g script.length steps)])∧Fr NoT w w'∧
  (zbd g script.length steps=0→∃en,Ends g (run0 g script steps) en∧m0=en.kind∧EndN w.heap.size w' en (.agg #[.int .u8 m0,.int .u8 m1,.int .i64 m2,.int .i64 m3,.int .i64 m4,.int .i64 m5,.slice A6 n6 c6,.slice A7 n7 c7])):=by
 obtain⟨hf,h⟩:=h
 by_cases h0:zbd g script.length steps=0
 ·rw[if_pos h0]at h
  obtain⟨en,v,h1,h2,rfl⟩:=h
  have h3:=h2
  obtain⟨bv,cv,Aa,ca,bs,rfl,_⟩:=h2
  exact⟨_,_,_,_,_,_,_,_,_,_,_,_,by rw[h0],hf,fun _=>⟨en,h1,rfl,h3⟩⟩
 ·rw[if_neg h0]at h
  exact⟨0,0,0,0,0,0,none,none,0,0,0,0,h,hf,fun h=>absurd h h0⟩
theorem zkF {g:Gr} {n m:Nat} {steps:Int} (hn:n≤4096) (hm:m≤4096):zbd g n steps=zbd g m steps:=by
 unfold zbd
 rw[if_neg (show ¬4096 < n from by omega),if_neg (show ¬4096 < m from by omega)]
theorem EndN.far {L:Nat} {w w':World} {en:En} {v:Value} {U:Nat→Prop} (h:EndN L w en v) (hf:Fr U w w') (hU:∀b,U b→b < L∨w.heap.size≤b):EndIs w' en v:=by
 obtain⟨bv,cv,Aa,ca,bs,rfl,rfl,hs⟩:=h
 exact⟨_,_,_,_,rfl,(znL hs hf hU).stSl⟩

theorem ziw (g:Gr) (Aa Ae As Ab:Option Addr) (ca ce cs cb:Nat) (script behind:List Int) (steps:Int) (w:World) (he:NameEnv w) (hg:GrSl w w.heap.size g Aa ca Ae ce) (hs:IsSl w w.heap.size script As cs) (hN1:As=none→cs=0) (hb:IsSl w w.heap.size behind Ab cb) (hN3:Ab=none→cb=0) (hlen:script.length+behind.length≤4611686018427387904):
  Calls Tryz.prog 13 #[grV g.vars Aa g.arrays.length ca g.nodes g.start g.last Ae g.edges.length ce,.slice As script.length cs,.int .i64 steps,.slice Ab behind.length cb] w (zhi w):=by
 have hla:=Nat.le_trans hg.arrays.1 hg.arrays.2.1
 have hgr:=fun(W:World) (hf:Fr NoT w W)=>zkD g.vars Aa g.arrays.length ca g.nodes g.start g.last g.edges Ae ce w.heap.size W hf.size (hg.edges.keep (Same.of_fr hf (Nat.le_refl _) fun _ h=>h.elim)) hla
 have hr4:∀(W:World),Fr NoT w W→∀A4 c4,IsSl W W.heap.size (script++behind) A4 c4→Calls Tryz.prog 31 #[.agg #[.int .i64 g.vars,.slice Aa g.arrays.length ca,.int .i64 g.nodes,.int .i64 g.start,.int .i64 g.last,.slice Ae g.edges.length ce],.slice A4 (script++behind).length c4,.int .i64 steps] W (RunN g (script++behind) steps W):=fun W hf A4 c4 h4=>ze0 g Aa Ae A4 ca ce c4 (script++behind) steps W ((hg.keep (Same.of_fr hf (Nat.le_refl _) fun _ h=>h.elim)).up hf.size) h4
 unfold grV at hgr ⊢
 obtain⟨na,hna⟩:=nmq g.arrays.length
 obtain⟨ne,hne⟩:=nmq g.edges.length
 obtain⟨ns,hns⟩:=nmq script.length
 obtain⟨nb,hnb⟩:=nmq behind.length
 obtain⟨n4,hn4⟩:=nmq ((script++behind).length )
 obtain⟨E1,hE1⟩:=nmq (zbd g script.length steps)
 have HRUN:=hdq (znK g Aa Ae As na ne ns ca ce cs script w hna hne hns hg hs)
 have HIN:=hdq (show ∀n∈script++behind,in64 n from fun n hn=>by
  rcases List.mem_append.1 hn with h|h
  ·exact(zka hs n h |> fun h=>by unfold is64 at h;unfold in64;omega)
  ·exact(zka hb n h |> fun h=>by unfold is64 at h;unfold in64;omega))
 have HISw:=hdq (fun(W:World) (hf:Fr NoT w W)=>hs.keep (Same.of_fr hf (Nat.le_refl _) fun _ h=>h.elim))
 have HIBw:=hdq (fun(W:World) (hf:Fr NoT w W)=>hb.keep (Same.of_fr hf (Nat.le_refl _) fun _ h=>h.elim))
 rw[←hna,←hne]at hgr
 rw[←hna,←hne,←hn4]at hr4
 have hl1:ns≤4611686018427387904:=by omega
 have hl2:nb≤4611686018427387904:=by omega
 rw[←hns,←hnb]at hlen
 rw[←hna,←hne,←hns,←hnb]
 obtain⟨w1,hw1⟩:=nmq (w.alloc (.cells #[.int .i64 g.vars,.slice Aa na ca,.int .i64 g.nodes,.int .i64 g.start,.int .i64 g.last,.slice Ae ne ce] 40))
 have hf1:Fr NoT w w1:=by rw[hw1];exact(Fr.refl _ _).alloc _
 have hk1:Bk w1 w.heap.size 40 #[.int .i64 g.vars,.slice Aa na ca,.int .i64 g.nodes,.int .i64 g.start,.int .i64 g.last,.slice Ae ne ce]:=by rw[hw1];exact Bk.new _ _ _
 have HAL:=hdq (ziv w1 (he.keep hf1.plain))
 have HGR:=hdq hgr
 have HR4:=hdq hr4
 have HNS:=hdq hns
 have HNB:=hdq hnb
 have HN4:=hdq hn4
 have HE0:=hdq hE1
 have HN1:=hdq hN1
 have HN3:=hdq hN3
 have HW1:=hdq hw1
 have HF1:=hdq hf1
 have HK1:=hdq hk1
 clear hg hs hb hgr hr4 hna hne hns hnb hn4 hE1 hw1 hf1 hk1 hla he hN1 hN3
 go_enter Tryz.func13,Tryz.ntmps13
 go_wp2_with fail
 rw[←HW1.out]
 refine HAL.out.mono ?_
 rintro _ w2 ⟨rfl,hb2⟩
 have HF2:=hdq (HF1.out.trans (Fr.below hb2:Fr NoT w1 w2))
 have HK2:=hdq (HK1.out.fr0 (Fr.below hb2:Fr NoT w1 w2))
 clear hb2
 have gc0:=HK2.out.cell 0
 have gc1:=HK2.out.cell 1
 have gc2:=HK2.out.cell 2
 have gc3:=HK2.out.cell 3
 have gc4:=HK2.out.cell 4
 have gc5:=HK2.out.cell 5
 have gcl:=HK2.out.lt
 simp only[getsL]at gc0 gc1 gc2 gc3 gc4 gc5
 go_wp2_with fail
 go_at_call 24
 refine(HGR.out w2 HF2.out).mono ?_
 rintro _ w3 ⟨b,rfl,hb3⟩
 have hf23:Fr NoT w2 w3:=Fr.below hb3
 have HF3:=hdq (HF2.out.trans hf23)
 have HK3:=hdq (HK2.out.fr0 hf23)
 clear hb3 hf23
 clear gc0 gc1 gc2 gc3 gc4 gc5 gcl
 rcases(show b=true∨(b=false∧(4000:Int) < (ns:Int)+(nb:Int))∨(b=false∧¬(4000:Int) < (ns:Int)+(nb:Int)∧2000 < steps)∨(b=false∧¬(4000:Int) < (ns:Int)+(nb:Int)∧¬2000 < steps)from by cases b<;>simp<;>omega)with rfl|⟨rfl,g1⟩|⟨rfl,g1,g2⟩|⟨rfl,g1,g2⟩
 ·
  go_wp2_with fail
  go_ret
  exact⟨rfl,HF3.out.plain⟩
 ·
  go_wp2_with fail
  go_ret
  exact⟨rfl,HF3.out.plain⟩
 ·
  go_wp2_with fail
  go_ret
  exact⟨rfl,HF3.out.plain⟩
 ·
  have gc0:=HK3.out.cell 0
  have gc1:=HK3.out.cell 1
  have gc2:=HK3.out.cell 2
  have gc3:=HK3.out.cell 3
  have gc4:=HK3.out.cell 4
  have gc5:=HK3.out.cell 5
  have gcl:=HK3.out.lt
  simp only[getsL]at gc0 gc1 gc2 gc3 gc4 gc5
  go_wp2_with fail
  go_at_call 31
  have hrun:=HRUN.out steps w3 HF3.out
  with_reducible refine hrun.mono ?_
  clear hrun
  rintro _ w4 h4
  obtain⟨k0,k1,k2,k3,k4,k5,kA,kB,kn,kc,km,kd,rfl,hf4,hr⟩:=h4.form
  rw[←HE0.out]at hr ⊢
  obtain⟨w5,hw5⟩:=nmq (w4.alloc (.cells #[.int .u8 k0,.int .u8 k1,.int .i64 k2,.int .i64 k3,.int .i64 k4,.int .i64 k5,.slice kA kn kc,.slice kB km kd] 59))
  have hf5:Fr NoT w4 w5:=by rw[hw5];exact(Fr.refl _ _).alloc _
  have HB5:=hdq (show Bk w5 w4.heap.size 59 #[.int .u8 k0,.int .u8 k1,.int .i64 k2,.int .i64 k3,.int .i64 k4,.int .i64 k5,.slice kA kn kc,.slice kB km kd]from by rw[hw5];exact Bk.new _ _ _)
  have HK5:=hdq ((HK3.out.fr0 hf4).fr0 hf5)
  have HF5:=hdq ((HF3.out.trans hf4).trans hf5)
  have HR5:=hdq (show E1=0→∃en,Ends g (run0 g script steps) en∧k0=en.kind∧EndIs w5 en (.agg #[.int .u8 k0,.int .u8 k1,.int .i64 k2,.int .i64 k3,.int .i64 k4,.int .i64 k5,.slice kA kn kc,.slice kB km kd])from fun h=>by
   obtain⟨en,h1,h2,h3⟩:=hr h
   exact⟨en,h1,h2,h3.is.keep hf5⟩)
  have HE1:=hdq (show zbd g (script++behind).length steps=E1 from by
   rw[HE0.out]
   refine zkF ?_ ?_
   ·rw[List.length_append,←HNS.out,←HNB.out];omega
   ·rw[←HNS.out];omega)
  have HW5:=hdq hw5
  clear hr hw5 hf4 hf5 h4
  clear gc0 gc1 gc2 gc3 gc4 gc5 gcl
  go_wp2_with fail
  rw[←HW5.out]
  go_cut [12,13] (fun s12 s13 wx=>∃(q:Nat) (m0 m1 m2 m3 m4 m5:Int) (mA mB:Option Addr) (mn mc mm md:Nat),s12= .pointer (some ⟨q,0,none⟩)∧s13= .int .i64 E1∧Hid (Bk wx q 59 #[.int .u8 m0,.int .u8 m1,.int .i64 m2,.int .i64 m3,.int .i64 m4,.int .i64 m5,.slice mA mn mc,.slice mB mm md])∧Hid (Fr NoT w5 wx)∧Hid (E1=0→∃en,Ends g (run0 g (script++behind) steps) en∧EndIs wx en (.agg #[.int .u8 m0,.int .u8 m1,.int .i64 m2,.int .i64 m3,.int .i64 m4,.int .i64 m5,.slice mA mn mc,.slice mB mm md])))
  case first=>
   have HS:Hid (∀W',Fr NoT w5 W'→(fun W'=>W'.cell? ⟨w.heap.size,0,none⟩=some (.int .i64 g.vars)∧W'.cell? ⟨w.heap.size,1,none⟩=some (.slice Aa na ca)∧W'.cell? ⟨w.heap.size,2,none⟩=some (.int .i64 g.nodes)∧W'.cell? ⟨w.heap.size,3,none⟩=some (.int .i64 g.start)∧W'.cell? ⟨w.heap.size,4,none⟩=some (.int .i64 g.last)∧W'.cell? ⟨w.heap.size,5,none⟩=some (.slice Ae ne ce)) W'):=hdq (fun W' hf=>⟨(HK5.out.fr0 hf).cell 0,(HK5.out.fr0 hf).cell 1,(HK5.out.fr0 hf).cell 2,(HK5.out.fr0 hf).cell 3,(HK5.out.fr0 hf).cell 4,(HK5.out.fr0 hf).cell 5⟩)
   have HIS:=hdq (fun(W:World) (hf:Fr NoT w5 W)=>HISw.out W (HF5.out.trans hf))
   have HIB:=hdq (fun(W:World) (hf:Fr NoT w5 W)=>HIBw.out W (HF5.out.trans hf))
   have HRUN4:=hdq (fun(W:World) (hf:Fr NoT w5 W)=>HR4.out W (HF5.out.trans hf))
   refine zap (fun W'=>W'.cell? ⟨w.heap.size,0,none⟩=some (.int .i64 g.vars)∧W'.cell? ⟨w.heap.size,1,none⟩=some (.slice Aa na ca)∧W'.cell? ⟨w.heap.size,2,none⟩=some (.int .i64 g.nodes)∧W'.cell? ⟨w.heap.size,3,none⟩=some (.int .i64 g.start)∧W'.cell? ⟨w.heap.size,4,none⟩=some (.int .i64 g.last)∧W'.cell? ⟨w.heap.size,5,none⟩=some (.slice Ae ne ce)) (fun i=>decide (i < 11)) (by kernel_rfl) (HS.out _ ((Fr.refl NoT w5).drew)) (fun hHeld=>?_)
   obtain⟨wa,hwa⟩:=nmq w5.drew
   rw[←hwa]
   have hfz:Fr NoT w5 wa:=by rw[hwa];exact(Fr.refl _ _).drew
   have hHeld:=HS.out wa hfz
   refine zak 0 (v:=?_) rfl (by kernel_rfl) (fun _ _ _ h=>h) hHeld (by rfl) ?_ ?_;rotate_left
   ·intro wz hSz;(try dsimp only at hSz);go_simp;try with_reducible rfl
   try simp only[putsL]
   refine zab 1 (v:=?_) rfl (by kernel_rfl) (fun _ _ _ h=>h) (by rfl) ?_ ?_;rotate_left
   ·intro wz;go_simp;try with_reducible rfl
   try simp only[putsL]
   refine zab 3 (v:=?_) rfl (by kernel_rfl) (fun _ _ _ h=>h) (by rfl) ?_ ?_;rotate_left
   ·intro wz;go_simp;try with_reducible rfl
   try simp only[putsL]
   refine zab 5 (v:=?_) rfl (by kernel_rfl) (fun _ _ _ h=>h) (by rfl) ?_ ?_;rotate_left
   ·intro wz;go_simp;try with_reducible rfl
   try simp only[putsL]
   have HQ:=hdq (fun(q:Nat) (h:(none:Option Nat)=some q)=>(show Bk wa q 59 #[.int .u8 0,.int .u8 0,.int .i64 0,.int .i64 0,.int .i64 0,.int .i64 0,.slice none 0 0,.slice none 0 0]∧w5.heap.size≤q from by cases h))
   clear hHeld hwa
   refine zgy 2 10 rfl rfl (by kernel_rfl) (fun KK hK=>?pTwo) (fun KK hK=>?pTen)
   case' pTen=>
    go_simp
    have hfA:=(Fr.refl NoT wa).alloc (.cells #[.int .u8 0,.int .u8 0,.int .i64 0,.int .i64 0,.int .i64 0,.int .i64 0,.slice none 0 0,.slice none 0 0] 59)
    have hbA:=Bk.new wa 59 #[.int .u8 0,.int .u8 0,.int .i64 0,.int .i64 0,.int .i64 0,.int .i64 0,.slice none 0 0,.slice none 0 0]
    have hzA:=hfz.trans hfA
    have hlA:=hfz.size
    obtain⟨qn,hqn⟩:=nmq wa.heap.size
    obtain⟨wa,hV⟩:=nmq (wa.alloc (.cells #[.int .u8 0,.int .u8 0,.int .i64 0,.int .i64 0,.int .i64 0,.int .i64 0,.slice none 0 0,.slice none 0 0] 59))
    rw[←hV]at hfA hbA hzA ⊢
    rw[←hqn]at hbA hlA ⊢
    replace hfz:=hzA
    replace HQ:=hdq (fun q (h:some qn=some q)=>(show Bk wa q 59 #[.int .u8 0,.int .u8 0,.int .i64 0,.int .i64 0,.int .i64 0,.int .i64 0,.slice none 0 0,.slice none 0 0]∧w5.heap.size≤q from by cases h;exact⟨hbA,hlA⟩))
    clear hfA hbA hzA hlA hqn hV
    try dsimp only
    refine hK _ _ (fun _ _=>HS.out wa hfz) ?_
    clear hK KK
    try simp only[putsL]
    refine zac 2 rfl (by kernel_rfl) (fun KK hK=>?_)
   rotate_left
   all_goals
    refine zf3 (by rfl) _ _ _ (by rfl) Tryz.underlying37 wa.heap.size (.slice none 0 0) 0 [] (by rfl) (World.ownsRow_nil _ _ _ _) HNS.out (by rfl) (HIS.out wa hfz) HN1.out (by omega) (Nat.le_refl _) ?_
    intro vb wb hown hgrow
    have hfB:Fr NoT wa wb:=Fr.grown hgrow fun g' e' _=>by simp[Value.ownBlock]at e'
    have hrow:wb.ownsRow wa.heap.size 3 1 vb ns (intL script):=by simpa using hown
    obtain⟨bb,hbb⟩:=nmq wa.heap.size
    have hla:=hfz.size
    have hQL:=fun q h=>(HQ.out q h).1.lt
    have hsB:=hfB.size
    rw[←hbb]at hrow hla hQL hsB
    have HROW:=hdq (And.intro hrow hsB)
    have HBB:=hdq hla
    have HQN:=hdq (fun q h=>(show vb.ownBlock≠some q from fun e=>by have h1:=(hrow.lt q e).1;have h2:=hQL q h;omega))
    replace hfz:=hfz.trans hfB
    replace HQ:=hdq (fun q h=>(⟨(HQ.out q h).1.fr0 hfB,(HQ.out q h).2⟩:Bk wb q _ _∧_))
    clear hown hgrow hfB hrow hbb hla hQL hsB
    try dsimp only
    refine hK _ _ (fun _ _=>HS.out wb hfz) ?_
    clear hK KK
    try simp only[putsL]
   refine zgy 4 10 rfl rfl (by kernel_rfl) (fun KK hK=>?qFour) (fun KK hK=>?qTen)
   case' qTen=>
    go_simp
    have hfA:=(Fr.refl NoT wb).alloc (.cells #[.int .u8 0,.int .u8 0,.int .i64 0,.int .i64 0,.int .i64 0,.int .i64 0,.slice none 0 0,.slice none 0 0] 59)
    have hbA:=Bk.new wb 59 #[.int .u8 0,.int .u8 0,.int .i64 0,.int .i64 0,.int .i64 0,.int .i64 0,.slice none 0 0,.slice none 0 0]
    have hzA:=hfz.trans hfA
    have hlA:=hfz.size
    have hrA:=zbk HROW.out.1 hfA
    have hsA:=Nat.le_trans HROW.out.2 hfA.size
    have hnA:=fun g h=>(HROW.out.1.lt g h).2
    obtain⟨qn,hqn⟩:=nmq wb.heap.size
    obtain⟨wb,hV⟩:=nmq (wb.alloc (.cells #[.int .u8 0,.int .u8 0,.int .i64 0,.int .i64 0,.int .i64 0,.int .i64 0,.slice none 0 0,.slice none 0 0] 59))
    rw[←hV]at hfA hbA hzA hrA hsA ⊢
    rw[←hqn]at hbA hlA hnA ⊢
    replace hfz:=hzA
    replace HROW:=hdq (And.intro hrA hsA)
    replace HQN:=hdq (fun q (h:some qn=some q)=>(show vb.ownBlock≠some q from fun e=>by cases h;exact Nat.lt_irrefl _ (hnA _ e)))
    replace HQ:=hdq (fun q (h:some qn=some q)=>(show Bk wb q 59 #[.int .u8 0,.int .u8 0,.int .i64 0,.int .i64 0,.int .i64 0,.int .i64 0,.slice none 0 0,.slice none 0 0]∧w5.heap.size≤q from by cases h;exact⟨hbA,hlA⟩))
    clear hfA hbA hzA hlA hqn hV hrA hsA hnA
    try dsimp only
    refine hK _ _ (fun _ _=>HS.out wb hfz) ?_
    clear hK KK
    try simp only[putsL]
    refine zac 4 rfl (by kernel_rfl) (fun KK hK=>?_)
   rotate_left
   rotate_left
   refine zac 4 rfl (by kernel_rfl) (fun KK hK=>?_)
   all_goals
    refine zf3 (by rfl) _ _ _ (by rfl) Tryz.underlying37 bb vb ns (intL script) (by rfl) HROW.out.1 HNB.out (by rfl) (HIB.out wb hfz) HN3.out (by omega) HROW.out.2 ?_
    intro vc wc hown hgrow
    have hfC:Fr (fun b=>vb.ownBlock=some b) wb wc:=Fr.grown hgrow fun g' e' _=>e'
    have hlow:∀b,vb.ownBlock=some b→bb≤b∧b < wb.heap.size:=fun b h=>HROW.out.1.lt b h
    have hzC:Fr NoT w5 wc:=hfz.back1 (hfC.mono fun b _ h=>(hlow b h).1) HBB.out
    have hrow:wc.ownsRow bb 3 1 vc (script++behind).length (intL (script++behind)):=by
     have e1:(script++behind).length =ns+nb:=by rw[List.length_append,HNS.out,HNB.out]
     have e2:intL (script++behind)=intL script++intL behind:=by simp[intL]
     rw[e1,e2];exact hown
    obtain⟨A4,c4,hv4,hsl4⟩:=zgO hrow HIN.out
    rw[←HN4.out]at hv4
    subst hv4
    have HS4:=hdq hsl4
    replace HQ:=hdq (fun q h=>(⟨(HQ.out q h).1.fr hfC (HQN.out q h),(HQ.out q h).2⟩:Bk wc q _ _∧_))
    replace hfz:=hzC
    clear hown hgrow hfC hlow hzC hrow hsl4
    try dsimp only
    refine hK _ _ (fun _ _=>HS.out wc hfz) ?_
    clear hK KK
    try simp only[putsL]
   rotate_left
   rotate_left
   refine zgy 6 10 rfl rfl (by kernel_rfl) (fun KK hK=>?rSix) (fun KK hK=>?rTen)
   case' rTen=>
    go_simp
    have hfA:=(Fr.refl NoT wc).alloc (.cells #[.int .u8 0,.int .u8 0,.int .i64 0,.int .i64 0,.int .i64 0,.int .i64 0,.slice none 0 0,.slice none 0 0] 59)
    have hbA:=Bk.new wc 59 #[.int .u8 0,.int .u8 0,.int .i64 0,.int .i64 0,.int .i64 0,.int .i64 0,.slice none 0 0,.slice none 0 0]
    have hzA:=hfz.trans hfA
    have hlA:=hfz.size
    have hrA:=(HS4.out.keep (Same.of_fr hfA (Nat.le_refl _) fun _ h=>h.elim)).up hfA.size
    obtain⟨qn,hqn⟩:=nmq wc.heap.size
    obtain⟨wc,hV⟩:=nmq (wc.alloc (.cells #[.int .u8 0,.int .u8 0,.int .i64 0,.int .i64 0,.int .i64 0,.int .i64 0,.slice none 0 0,.slice none 0 0] 59))
    rw[←hV]at hfA hbA hzA hrA ⊢
    rw[←hqn]at hbA hlA ⊢
    replace hfz:=hzA
    replace HS4:=hdq hrA
    replace HQ:=hdq (fun q (h:some qn=some q)=>(show Bk wc q 59 #[.int .u8 0,.int .u8 0,.int .i64 0,.int .i64 0,.int .i64 0,.int .i64 0,.slice none 0 0,.slice none 0 0]∧w5.heap.size≤q from by cases h;exact⟨hbA,hlA⟩))
    clear hfA hbA hzA hlA hqn hV hrA
    try dsimp only
    refine hK _ _ (fun _ _=>HS.out wc hfz) ?_
    clear hK KK
    try simp only[putsL]
    refine zac 6 rfl (by kernel_rfl) (fun KK hK=>?_)
   rotate_left
   rotate_left
   refine zac 6 rfl (by kernel_rfl) (fun KK hK=>?_)
   rotate_left
   refine zac 6 rfl (by kernel_rfl) (fun KK hK=>?_)
   rotate_left
   rotate_left
   rotate_left
   all_goals
    go_simp
    go_at_call 31
    have hrun:=HRUN4.out wc hfz A4 c4 HS4.out
    with_reducible refine hrun.mono ?_
    clear hrun
    rintro _ w7 h7
    obtain⟨m0,m1,m2,m3,m4,m5,mA,mB,mn,mc,mm,md,rfl,hf7,hr7⟩:=h7.form
    rw[HE1.out]at hr7 ⊢
    obtain⟨L7,hL7⟩:=nmq wc.heap.size
    rw[←hL7]at hr7
    obtain⟨wd,hwd⟩:=nmq w7
    have hd7:Fr NoT w7 wd:=by rw[hwd];exact Fr.refl _ _
    rw[←hwd]
    have H7:=hdq hd7
    have HR7:=hdq hr7
    have HQL:=hdq (fun q h=>(show q < L7∨w7.heap.size≤q from .inl (by rw[hL7];exact(HQ.out q h).1.lt)))
    replace HQ:=hdq (fun q h=>(⟨(HQ.out q h).1.fr0 (hf7.trans hd7),(HQ.out q h).2⟩:Bk wd q _ _∧_))
    replace hfz:=(hfz.trans hf7).trans hd7
    clear hf7 hr7 hL7 hwd hd7 h7
    try dsimp only
    refine hK _ _ (fun _ _=>HS.out wd hfz) ?_
    clear hK KK
    try simp only[putsL]
   all_goals
    refine zab 7 (v:=?_) rfl (by kernel_rfl) (fun _ _ _ h=>h) (by rfl) ?_ ?_;rotate_left
    ·intro wz;go_simp;try with_reducible rfl
    try simp only[putsL]
    refine zab 8 (v:=?_) rfl (by kernel_rfl) (fun _ _ _ h=>h) (by rfl) ?_ ?_;rotate_left
    ·intro wz;go_simp;try with_reducible rfl
    try simp only[putsL]
    refine zab 9 (v:=?_) rfl (by kernel_rfl) (fun _ _ _ h=>h) (by rfl) ?_ ?_;rotate_left
    ·intro wz;go_simp;try with_reducible rfl
    try simp only[putsL]
   rotate_left
   rotate_left
   rotate_left
   refine zac 10 rfl (by kernel_rfl) (fun KK hK=>?_)
   go_simp
   have hfA:=(Fr.refl NoT wd).alloc (.cells #[.int .u8 0,.int .u8 0,.int .i64 0,.int .i64 0,.int .i64 0,.int .i64 0,.slice none 0 0,.slice none 0 0] 59)
   have hbA:=Bk.new wd 59 #[.int .u8 0,.int .u8 0,.int .i64 0,.int .i64 0,.int .i64 0,.int .i64 0,.slice none 0 0,.slice none 0 0]
   have hzA:=hfz.trans hfA
   have hlA:=hfz.size
   have h7A:=H7.out.trans hfA
   have hlB:=H7.out.size
   obtain⟨qn,hqn⟩:=nmq wd.heap.size
   obtain⟨wd,hV⟩:=nmq (wd.alloc (.cells #[.int .u8 0,.int .u8 0,.int .i64 0,.int .i64 0,.int .i64 0,.int .i64 0,.slice none 0 0,.slice none 0 0] 59))
   rw[←hV]at hfA hbA hzA h7A ⊢
   rw[←hqn]at hbA hlA hlB ⊢
   replace hfz:=hzA
   replace H7:=hdq h7A
   replace HQL:=hdq (fun q (h:some qn=some q)=>(show q < L7∨w7.heap.size≤q from .inr (by cases h;exact hlB)))
   replace HQ:=hdq (fun q (h:some qn=some q)=>(show Bk wd q 59 #[.int .u8 0,.int .u8 0,.int .i64 0,.int .i64 0,.int .i64 0,.int .i64 0,.slice none 0 0,.slice none 0 0]∧w5.heap.size≤q from by cases h;exact⟨hbA,hlA⟩))
   clear hfA hbA hzA hlA hqn hV h7A hlB
   try dsimp only
   refine hK _ _ (fun _ _=>HS.out wd hfz) ?_
   clear hK KK
   try simp only[putsL]
   all_goals
    refine zac 11 rfl (by kernel_rfl) (fun KK hK=>?_)
    obtain⟨hq,hq0⟩:=HQ.out _ rfl
    have kcz0:=hq.frozen 0
    have kcz1:=hq.frozen 1
    have kcz2:=hq.frozen 2
    have kcz3:=hq.frozen 3
    have kcz4:=hq.frozen 4
    have kcz5:=hq.frozen 5
    have kcz6:=hq.frozen 6
    have kcz7:=hq.frozen 7
    have kc0:=hq.cell 0
    have kc1:=hq.cell 1
    have kc2:=hq.cell 2
    have kc3:=hq.cell 3
    have kc4:=hq.cell 4
    have kc5:=hq.cell 5
    have kc6:=hq.cell 6
    have kc7:=hq.cell 7
    have kcl:=hq.lt
    simp only[getsL]at kc0 kc1 kc2 kc3 kc4 kc5 kc6 kc7
    go_simp
    obtain⟨we,hwe⟩:=nmq ((((((((wd.setCell ⟨qn,0,none⟩ (.int .u8 m0)).setCell ⟨qn,1,none⟩ (.int .u8 m1)).setCell ⟨qn,2,none⟩ (.int .i64 m2)).setCell ⟨qn,3,none⟩ (.int .i64 m3)).setCell ⟨qn,4,none⟩ (.int .i64 m4)).setCell ⟨qn,5,none⟩ (.int .i64 m5)).setCell ⟨qn,6,none⟩ (.slice mA mn mc)).setCell ⟨qn,7,none⟩ (.slice mB mm md))
    rw[←hwe]
    have hfe:Fr (fun i=>i=qn) wd we:=by rw[hwe];exact Fr.own (Fr.own (Fr.own (Fr.own (Fr.own (Fr.own (Fr.own (Fr.own (Fr.refl _ _) _ _) _ _) _ _) _ _) _ _) _ _) _ _) _ _
    have hke:Bk we qn 59 #[.int .u8 m0,.int .u8 m1,.int .i64 m2,.int .i64 m3,.int .i64 m4,.int .i64 m5,.slice mA mn mc,.slice mB mm md]:=by
     have:=((((((((hq.set_ 0 (.int .u8 m0)).set_ 1 (.int .u8 m1)).set_ 2 (.int .i64 m2)).set_ 3 (.int .i64 m3)).set_ 4 (.int .i64 m4)).set_ 5 (.int .i64 m5)).set_ 6 (.slice mA mn mc)).set_ 7 (.slice mB mm md))
     rw[hwe];simpa using this
    have HKE:=hdq hke
    have HFE:=hdq (hfz.back1 (hfe.mono fun b _ e=>(show w5.heap.size≤b from by have e:b=qn:=e;omega)) (Nat.le_refl _))
    have HRE:=hdq (show E1=0→∃en,Ends g (run0 g (script++behind) steps) en∧EndIs we en (.agg #[.int .u8 m0,.int .u8 m1,.int .i64 m2,.int .i64 m3,.int .i64 m4,.int .i64 m5,.slice mA mn mc,.slice mB mm md])from fun h=>by
     obtain⟨en,h1,_,h2⟩:=HR7.out h
     exact⟨en,h1,h2.far (H7.out.any.trans hfe) (fun b e=>by have e:b=qn:=e;rw[e];exact HQL.out _ rfl)⟩)
    clear kc0 kc1 kc2 kc3 kc4 kc5 kc6 kc7 kcl kcz0 kcz1 kcz2 kcz3 kcz4 kcz5 kcz6 kcz7
    clear hq hq0 hwe hfe hke
    try dsimp only
    refine hK _ _ (fun h=>absurd h (by decide)) ?_
    clear hK KK
    try simp only[putsL]
    refine zab 12 (v:=?_) rfl (by kernel_rfl) (fun _ _ _ h=>h) (by rfl) ?_ ?_;rotate_left
    ·intro wz;go_simp;try with_reducible rfl
    try simp only[putsL]
    refine zaQ (by kernel_rfl) ?_
    go_wp2_with fail
    go_meet
    exact⟨qn,m0,m1,m2,m3,m4,m5,mA,mB,mn,mc,mm,md,rfl,rfl,HKE,HFE,HRE⟩
  case rest=>
   obtain⟨q,m0,m1,m2,m3,m4,m5,mA,mB,mn,mc,mm,md,rfl,rfl,hk,hf,hr⟩:=hcut
   have HK6:=hk
   have HF6:=hdq (HF5.out.trans hf.out)
   have HB6:=hdq (HB5.out.fr0 hf.out)
   have hne0:(E1 != E1)=false:=by simp
   have hways:(E1≠0)∨(E1=0∧k0=3)∨(E1=0∧k0≠3∧Calls Tryz.prog 32 #[.agg #[.int .u8 k0,.int .u8 k1,.int .i64 k2,.int .i64 k3,.int .i64 k4,.int .i64 k5,.slice kA kn kc,.slice kB km kd],.agg #[.int .u8 m0,.int .u8 m1,.int .i64 m2,.int .i64 m3,.int .i64 m4,.int .i64 m5,.slice mA mn mc,.slice mB mm md]] wc (zae true wc)):=by
    by_cases h0:E1=0
    ·right
     by_cases h3:k0=3
     ·exact .inl ⟨h0,h3⟩
     ·right
      obtain⟨en,h1,h2,h4⟩:=HR5.out h0
      obtain⟨en2,h5,h6⟩:=hr.out h0
      have h7:=(h1.scr behind (by rw[←h2];exact h3)).uniq _ (show Ends g ((run0 g script steps).scr behind) en2 from h5)
      subst h7
      have h8:=zkC (h4.keep hf.out) h6
      rw[zkB]at h8
      exact⟨h0,h3,h8⟩
    ·exact .inl h0
   clear hk hf hr
   have kc0:=HB6.out.cell 0
   have kc1:=HB6.out.cell 1
   have kc2:=HB6.out.cell 2
   have kc3:=HB6.out.cell 3
   have kc4:=HB6.out.cell 4
   have kc5:=HB6.out.cell 5
   have kc6:=HB6.out.cell 6
   have kc7:=HB6.out.cell 7
   have kcl:=HB6.out.lt
   simp only[getsL]at kc0 kc1 kc2 kc3 kc4 kc5 kc6 kc7
   have mc0:=HK6.out.cell 0
   have mc1:=HK6.out.cell 1
   have mc2:=HK6.out.cell 2
   have mc3:=HK6.out.cell 3
   have mc4:=HK6.out.cell 4
   have mc5:=HK6.out.cell 5
   have mc6:=HK6.out.cell 6
   have mc7:=HK6.out.cell 7
   have mcl:=HK6.out.lt
   simp only[getsL]at mc0 mc1 mc2 mc3 mc4 mc5 mc6 mc7
   rcases hways with h0|⟨rfl,rfl⟩|⟨rfl,h3,hsame⟩
   ·have z1:(E1 != 0)=true:=by simpa using h0
    clear h0
    go_wp2_with fail
    go_ret
    exact⟨rfl,HF6.out.plain⟩
   ·go_wp2_with fail
    go_ret
    exact⟨rfl,HF6.out.plain⟩
   ·have z3:(k0==3)=false:=by simpa using h3
    have HSAME:=hdq hsame
    clear h3 hsame
    go_wp2_with fail
    go_at_call 32
    refine HSAME.out.mono ?_
    rintro _ w9 ⟨rfl,hb9⟩
    have HB9:=hdq hb9
    clear hb9
    go_wp2_with fail
    go_ret
    exact⟨rfl,(HF6.out.trans (Fr.below HB9.out)).plain⟩
end Go.Proofs.YtobegfbdedgmpaaGreatDoor
