/-
  flow.Graph, of a tree of sets and whiles that calls nothing.
-/
import Derived.Test.YtmfioehnhjjgpaaGreatDoorJnFg6
import Derived.Test.YtmfioehnhjjgpaaGreatDoorJgPs
set_option linter.unusedVariables false
set_option linter.unusedSimpArgs false
set_option maxHeartbeats 3200000
set_option maxRecDepth 100000
namespace Go.Proofs.YtmfioehnhjjgpaaGreatDoor
open Go.RowKit Go.Shelf

def zlJ:Sts→Prop
 | .nil =>True
 | .cons k nm args cond body els _ r=>(k=2∨k=8∧∃k0 a0 o0 t0 r0,cond= .cons k0 a0 o0 t0 r0∧szQ a0∧1≤k0∧k0≤8)∧nm.size≤9223372036854775807∧szQ args∧zlJ body∧zlJ els∧zlJ r
theorem zpu (C:FgC):∀xs:Sts,zlJ xs→BlkI C xs
 | .nil,_,i,_,_,_,_,_,_,_,_,h=>by cases i<;>simp[Sts.drop]at h
 | .cons k nm args cond body els at_ r,hw,0,k0,n0,a0,c0,b0,e0,t0,r0,h=>by
  simp only[Sts.drop,Sts.cons.injEq]at h
  obtain⟨rfl,rfl,rfl,rfl,rfl,rfl,rfl,_⟩:=h
  obtain⟨h1,h3,h4,h7,h8,_⟩:=hw
  rcases h1 with rfl|⟨rfl,k1,a1,o1,t1,r1,rfl,h5,h6,h9⟩
  ·exact zqy C _ _ _ _ _ _ h3 h4
  ·exact zqz C _ _ _ _ _ _ k1 a1 o1 t1 r1 rfl (zg5 C k1 a1 o1 t1 h5 h6 h9) (zc1 C _ (zpu C _ h7))
 | .cons k nm args cond body els at_ r,hw,i+1,k0,n0,a0,c0,b0,e0,t0,r0,h=>by
  simp only[Sts.drop]at h
  exact zpu C r hw.2.2.2.2.2 i k0 n0 a0 c0 b0 e0 t0 r0 h
theorem zqJ (C:FgC) (xs:Sts) (h:zlJ xs):FBlk C xs:=zc1 C xs (zpu C xs h)
theorem stc0 {K:InK} (hk:K.Ok) (xs:Sts) (hl:LvB K.procs (fun _=>False) xs) (hz:szS xs):StC K (inlF K.procs 0) xs:=
 zlt hk (low:=fun _=>False) (fun ys hl hz i a1 a2 a3 a4 a5 a6 ar hd=>by
  obtain⟨x,_,_,h⟩:=(ziB i hl hz hd).1 rfl
  exact h.elim) xs hl hz
theorem inl0 (t:Tre) (w:World) (S:Nat→Prop) (Z:Prop) (Av Aa Ap Am:Option Addr) (cv ca cp cm:Nat) (he:SpEnv w) (htab:Lib.TabIs Tryz.prog w "internal/strconv.uint64pow10" .u64 Lib.pow10Tab) (hS:∀b,S b→b < w.heap.size) (hsz:SzT t) (hx:TrR w S Z t Av Aa Ap Am cv ca cp cm)
  (ha:t.arrays= []) (hk:kdS t.main) (ht:okTr t=true) (hf:fewT t=true) (hp:t.procs= []) (hv:t.vars.length≤12) (hl:LvB (fun _=>none) (fun _=>False) t.main):
  Calls Tryz.prog 9 #[trV t Av Aa Ap Am cv ca cp cm] w (InlP (inlT t) w):=
 zoi t w S Z Av Aa Ap Am cv ca cp cm htab hS hsz hx (fun w1 hf1=>zqj t w1 S Z Av Aa Ap Am cv ca cp cm (he.keep hf1.plain) (fun b hb=>ltq (hS b hb) hf1.size) hsz (hx.keep (hf1.same fun b hb=>⟨hS b hb,id⟩)) ha hp hk ht hf)
  fun _=>by
   rw[hp]
   exact⟨hv,fun y x h=>(by cases h),fun K hk e=>stc0 hk t.main (by rw[e];exact hl) hsz.main⟩

open Go.RowKit Go.Shelf Go.Maps

def zf0 (W:World) (e:Ending) (w':World):Prop:=e= .returned (.bool true)∧Below W.heap.size W w'
def zqK (l:List Tk):Bool:=l.all fun t=>t.text != [97,114,114,97,121]&&t.text != [112,114,111,99]
def zov (l:List Tk):Bool:=match zbq 24 l with| .ok _ _=>true| .err _ _=>false
def zqL (l:List Tk):Bool:=(List.range l.length).all fun j=> !mayB [109,97,105,110] (l.drop j) || zov (l.drop j).tail
theorem zlK {s:List UInt8} {T:Tre} {r0:List Tk} (h0:(toks s).2.2 =0) (h1:zgo ((toks s).1 ++ [endT s])= .ok T r0) (h2:zqK ((toks s).1 ++ [endT s])=true) (h3:zqL ((toks s).1 ++ [endT s])=true):PlainT s T r0:=by
 refine⟨h0,h1,fun t ht=>?_,fun j hj=>?_⟩
 ·have:=List.all_eq_true.1 h2 t ht
  simpa using this
 ·obtain⟨l,hl⟩:=nmq ((toks s).1 ++ [endT s])
  rw[←hl]at h3 hj ⊢
  by_cases hjl:j < l.length
  ·have:=List.all_eq_true.1 h3 j (List.mem_range.2 hjl)
   rw[hj]at this
   simp only[Bool.not_true,Bool.false_or]at this
   unfold zov at this
   split at this
   ·rename_i b r he
    exact⟨b,r,he⟩
   ·cases this
  ·rw[List.drop_eq_nil_of_le (by omega)]at hj
   exact absurd hj (by decide)
def lw0:List UInt8:= [118,97,114,32,120,59,109,97,105,110,123,119,104,105,108,101,40,120,60,50,41,123,120,61,120,43,49,59,125,125]
def lbX:ByteArray:=⟨#[120]⟩
def lw1:Tre:=⟨[⟨lbX,4⟩], [], [],.cons 8 ⟨#[]⟩ .nil (.cons 3 (.cons 2 lbX 0 .nil 17 (.cons 1 ⟨#[]⟩ 2 .nil 19 .nil)) .nil 18 .nil) (.cons 2 lbX (.cons 5 ⟨#[]⟩ 0 (.cons 2 lbX 0 .nil 24 (.cons 1 ⟨#[]⟩ 1 .nil 26 .nil)) 25 .nil) .nil .nil .nil 22 .nil) .nil 11 .nil⟩
theorem lw_ok:PlainT lw0 lw1 [endT lw0]:=zlK (by kernel_rfl) (by kernel_rfl) (by kernel_rfl) (by kernel_rfl)
theorem znz:zeO lw0=(lw1,0,0):=lw_ok.par
def zqM:Exs:= .cons 2 lbX 0 .nil 17 (.cons 1 ⟨#[]⟩ 2 .nil 19 .nil)
def lwG:Gr:=⟨1, [],5,0,1, [⟨0,2,1,0,0,.nil,11⟩,⟨2,3,2,0,0,.nil,11⟩,⟨3,4,6,0,3,zqM,18⟩,⟨3,1,6,0,6,zqM,18⟩,⟨4,2,3,0,0,.cons 5 ⟨#[]⟩ 0 (.cons 2 lbX 0 .nil 24 (.cons 1 ⟨#[]⟩ 1 .nil 26 .nil)) 25 .nil,22⟩]⟩
theorem zqN:graT lw1=(lwG,0):=by kernel_rfl
theorem lw_sz:SzT lw1:=by
 refine⟨fun x hx=>?_,fun x hx=>by simp[lw1]at hx,fun x hx=>by simp[lw1]at hx,?_⟩
 ·simp only[lw1,List.mem_cons,List.not_mem_nil,or_false]at hx
  subst hx
  decide
 ·unfold lw1
  simp only[szS,szX,szC]
  decide
theorem zqO:inlT lw1=(lw1,0):=by kernel_rfl
theorem znA (w:World) (S:Nat→Prop) (Z:Prop) (Av Aa Ap Am:Option Addr) (cv ca cp cm:Nat) (he:SpEnv w) (htab:Lib.TabIs Tryz.prog w "internal/strconv.uint64pow10" .u64 Lib.pow10Tab) (hS:∀b,S b→b < w.heap.size) (hx:TrR w S Z lw1 Av Aa Ap Am cv ca cp cm):
  Calls Tryz.prog 8 #[trV lw1 Av Aa Ap Am cv ca cp cm] w (GraP (lwG,0) w):=by
 have h:=ziK lw1 w Av Aa Ap Am cv ca cp cm (fun w1 hf1=>inl0 lw1 w1 S Z Av Aa Ap Am cv ca cp cm (he.keep hf1.plain) (ziH hf1 htab) (fun b hb=>ltq (hS b hb) hf1.size) lw_sz (hx.keep (hf1.same fun b hb=>⟨hS b hb,id⟩)) rfl (by unfold lw1;simp[kdS]) (by kernel_rfl) (by kernel_rfl) rfl (by decide) (by unfold lw1;simp[LvB]))
  (fun _=>by
   rw[zqO]
   refine⟨fun C=>zqJ C _ ?_,by unfold lw1;simp only[szT,szM,szN];decide,⟨lw_sz.vars,by decide⟩,lw_sz.arrays,by decide⟩
   unfold lw1
   refine⟨.inr ⟨rfl,_,_,_,_,_,rfl,?_,by decide,by decide⟩,by decide,trivial,⟨.inl rfl,by decide,?_,trivial,trivial,trivial⟩,trivial,trivial⟩<;>(simp only[szQ];decide))
 rw[zqN]at h
 exact h
theorem zqP (w:World) (he:NameEnv w):Calls Tryz.prog 47 #[.string ⟨lw0.toArray⟩] w (zp2 (lw1,0,0) w):=by
 have h:=zmQ ⟨lw0.toArray⟩ lw1 [endT lw0] (show PlainT lw0 lw1 [endT lw0]from lw_ok) (by decide) w he
 rw[show(⟨lw0.toArray⟩:ByteArray).data.toList =lw0 from rfl,znz]at h
 exact h

def LoopP (W:World) (e:Ending) (w':World):Prop:=∃Aa Ae ca ce,e= .returned (.tuple #[.agg #[.int .i64 1,.slice Aa 0 ca,.int .i64 5,.int .i64 0,.int .i64 1,.slice Ae 5 ce],.bool true])∧GrR w' (New W.heap.size w') lwG Aa ca Ae ce∧Fr NoT W w'
theorem zlL (w:World) (he:NameEnv w):Calls Tryz.prog 17 #[] w (LoopP w):=by
 obtain⟨w1,hw1⟩:=nmq (w.alloc (.cells #[.int .i64 0,.slice none 0 0,.int .i64 0,.int .i64 0,.int .i64 0,.slice none 0 0] 33))
 have hf1:Fr NoT w w1:=by rw[hw1];exact(Fr.refl _ _).alloc _
 have hk1:Bk w1 w.heap.size 33 #[.int .i64 0,.slice none 0 0,.int .i64 0,.int .i64 0,.int .i64 0,.slice none 0 0]:=by rw[hw1];exact Bk.new _ _ _
 have h1:=zqP w1 (he.keep hf1.plain)
 unfold lw0 at h1
 have HW1:=hdq hw1
 have HF1:=hdq hf1
 have HK1:=hdq hk1
 clear hw1 hf1 hk1
 have H1:=hdq (show Calls Tryz.prog 47 _ w1 (fun e w'=>∃Av Aa Ap Am cv ca cp cm,e= .returned (.tuple #[.agg #[.slice Av 1 cv,.slice Aa 0 ca,.slice Ap 0 cp,.slice Am 1 cm],.int .i64 0,.int .i64 0])∧TrR w' (New w1.heap.size w') False lw1 Av Aa Ap Am cv ca cp cm∧Below w1.heap.size w1 w')from h1)
 have HE:=hdq he
 clear h1 he
 go_enter Tryz.func17,Tryz.ntmps17
 go_wp2_with fail
 rw[←HW1.out]
 refine H1.out.mono ?_
 rintro _ w2 ⟨Av,Aa,Ap,Am,cv,ca,cp,cm,rfl,hT,hb⟩
 have hf2:Fr NoT w1 w2:=Fr.below hb
 obtain⟨w3,hw3⟩:=nmq (w2.alloc (.cells #[.slice Av 1 cv,.slice Aa 0 ca,.slice Ap 0 cp,.slice Am 1 cm] 27))
 have hf3:Fr NoT w2 w3:=by rw[hw3];exact(Fr.refl _ _).alloc _
 have hf03:Fr NoT w w3:=(HF1.out.trans hf2).trans hf3
 have h3:=znA w3 (New w1.heap.size w2) False Av Aa Ap Am cv ca cp cm (HE.out.keep hf03.plain).toSp (HE.out.keep hf03.plain).lex.tab (fun b hb=>ltq hb.2 hf3.size) (hT.keep (hf3.same fun b hb=>⟨hb.2,id⟩))
 have H3:=hdq (show Calls Tryz.prog 8 #[.agg #[.slice Av 1 cv,.slice Aa 0 ca,.slice Ap 0 cp,.slice Am 1 cm]] w3 (fun e w'=>∃Aa Ae ca ce,e= .returned (.tuple #[.agg #[.int .i64 1,.slice Aa 0 ca,.int .i64 5,.int .i64 0,.int .i64 1,.slice Ae 5 ce],.int .i64 0])∧GrR w' (New w3.heap.size w') lwG Aa ca Ae ce∧Fr NoT w3 w')from h3)
 have HW3:=hdq hw3
 have HF03:=hdq hf03
 have HK3:=hdq ((HK1.out.fr0 hf2).fr0 hf3)
 clear hT hb hf2 hw3 hf3 hf03 h3
 go_wp2_with fail
 rw[←HW3.out]
 go_at_call 8
 refine H3.out.mono ?_
 rintro _ w4 ⟨Ba,Be,da,de,rfl,hG4,hf4⟩
 have hk4:=HK3.out.fr0 hf4
 have yl:=hk4.lt
 obtain⟨w5,hw5⟩:=nmq ((((((w4.setCell ⟨w.heap.size,0,none⟩ (.int .i64 1)).setCell ⟨w.heap.size,1,none⟩ (.slice Ba 0 da)).setCell ⟨w.heap.size,2,none⟩ (.int .i64 5)).setCell ⟨w.heap.size,3,none⟩ (.int .i64 0)).setCell ⟨w.heap.size,4,none⟩ (.int .i64 1)).setCell ⟨w.heap.size,5,none⟩ (.slice Be 5 de))
 have hff0:Fr (fun i=>i=w.heap.size) w4 w5:=by rw[hw5];exact Fr.own (Fr.own (Fr.own (Fr.own (Fr.own (Fr.own (Fr.refl _ _) _ _) _ _) _ _) _ _) _ _) _ _
 have hk5:Bk w5 w.heap.size 33 #[.int .i64 1,.slice Ba 0 da,.int .i64 5,.int .i64 0,.int .i64 1,.slice Be 5 de]:=by
  have:=(((((hk4.set_ 0 (.int .i64 1)).set_ 1 (.slice Ba 0 da)).set_ 2 (.int .i64 5)).set_ 3 (.int .i64 0)).set_ 4 (.int .i64 1)).set_ 5 (.slice Be 5 de)
  rw[hw5];simpa using this
 obtain⟨wf,hwf⟩:=nmq (w5.alloc (.cells #[.int .i64 1,.slice Ba 0 da,.int .i64 5,.int .i64 0,.int .i64 1,.slice Be 5 de] 33))
 have hf5:Fr NoT w5 wf:=by rw[hwf];exact(Fr.refl _ _).alloc _
 have hkf:=hk5.fr0 hf5
 have hff:Fr NoT w wf:=(Fr.thenT (HF03.out.trans hf4) hff0 fun i hi e=>by have e:i=w.heap.size:=e;omega).trans hf5
 have hz3:w.heap.size < w3.heap.size:=HK3.out.lt
 have hz4:=hf4.size
 have hz5:=hf5.size
 have hzf:=hff0.size
 have HG4:=hdq (show GrR wf (New w.heap.size wf) lwG Ba da Be de from(((hG4.keep (hff0.same fun b hb=>⟨hb.2,fun e=>by have e:b=w.heap.size:=e;have:w3.heap.size≤b:=hb.1;omega⟩)).keep (hf5.same fun b hb=>⟨ltq hb.2 hzf,id⟩)).more fun b hb=>⟨by have:w3.heap.size≤b:=hb.1;omega,by have:b < w4.heap.size:=hb.2;omega⟩))
 have HK4:=hdq hk4
 have HW5:=hdq hw5
 have HWF:=hdq hwf
 have HFF:=hdq hff
 have HKF:=hdq hkf
 clear hG4 hf4 hk4 hwf hff hff0 hkf hz3 hz4 hz5 hzf hw5 hf5 hk5
 have kz0:=HK4.out.frozen 0
 have kz1:=HK4.out.frozen 1
 have kz2:=HK4.out.frozen 2
 have kz3:=HK4.out.frozen 3
 have kz4:=HK4.out.frozen 4
 have kz5:=HK4.out.frozen 5
 have kc0:=HK4.out.cell 0
 have kc1:=HK4.out.cell 1
 have kc2:=HK4.out.cell 2
 have kc3:=HK4.out.cell 3
 have kc4:=HK4.out.cell 4
 have kc5:=HK4.out.cell 5
 have kl:=HK4.out.lt
 simp only[getsL]at kc0 kc1 kc2 kc3 kc4 kc5
 go_wp2_with fail
 rw[←HW5.out,←HWF.out]
 refine bodyPost_ret (zaD (p:=0) (q:=1) (ty:=33) rfl _ _ w.heap.size 33 _ (0,0) _ rfl HKF.out Tryz.underlying33 rfl zg8) rfl ?_
 exact⟨Ba,Be,da,de,rfl,HG4.out,HFF.out⟩

theorem EgR.cells {w:World} {S:Nat→Prop}:∀ {l:List Ed} {b o i:Nat} {e:Ed},EgR w S l b o→l[i]?=some e→
  w.cell? ⟨b,o+i*7,none⟩=some (.int .i64 e.from_)∧w.cell? ⟨b,o+i*7+1,none⟩=some (.int .i64 e.to_)∧w.cell? ⟨b,o+i*7+2,none⟩=some (.int .u8 e.kind)∧w.cell? ⟨b,o+i*7+3,none⟩=some (.int .i64 e.n)∧w.cell? ⟨b,o+i*7+4,none⟩=some (.int .u8 e.cmp)∧w.cell? ⟨b,o+i*7+6,none⟩=some (.int .i64 e.at_)
 | [],_,_,_,_,_,h=>by simp at h
 |x::r,b,o,0,e,h,he=>by
  simp only[List.getElem?_cons_zero,Option.some.injEq]at he
  subst he
  obtain⟨⟨_,_,h1,h2,h3,h4,h5,h6⟩,_⟩:=h
  simp only[Nat.zero_mul,Nat.add_zero]
  exact⟨h1,h2,h3,h4,h5,h6⟩
 |x::r,b,o,i+1,e,h,he=>by
  simp only[List.getElem?_cons_succ]at he
  have:=EgR.cells h.2.2 he
  rw[show o+(i+1)*7=o+7+i*7 from by omega]
  exact this
theorem lw_at (k:Nat) (h:k < 5):∃e,lwG.edges[k]?=some e∧(#[Value.int .u8 1,.int .u8 2,.int .u8 6,.int .u8 6,.int .u8 3]:Array Value)[k]?=some (.int .u8 e.kind)∧(#[Value.int .i64 0,.int .i64 2,.int .i64 3,.int .i64 3,.int .i64 4]:Array Value)[k]?=some (.int .i64 e.from_)∧(#[Value.int .i64 2,.int .i64 3,.int .i64 4,.int .i64 1,.int .i64 2]:Array Value)[k]?=some (.int .i64 e.to_):=by
 rcases(show k=0∨k=1∨k=2∨k=3∨k=4 from by omega)with rfl|rfl|rfl|rfl|rfl<;>exact⟨_,rfl,rfl,rfl,rfl⟩
theorem zjM (w:World) (he:NameEnv w):Calls Tryz.prog 6 #[] w (zf0 w):=by
 have HC:=hdq (zlL w he)
 clear he
 go_enter Tryz.func6,Tryz.ntmps6
 go_wp2_with fail
 refine HC.out.mono ?_
 rintro _ w1 ⟨Aa,Ae,ca,ce,rfl,hG,hf⟩
 obtain⟨b,o,rfl,hE⟩:=hG.edges.2.2 (by decide)
 have hbl:b < w1.heap.size:=by
  have:=hE.1.1
  exact this.2
 obtain⟨w2,hw2⟩:=nmq (w1.alloc (.cells #[.int .i64 1,.slice Aa 0 ca,.int .i64 5,.int .i64 0,.int .i64 1,.slice (some ⟨b,o,none⟩) 5 ce] 33))
 have hf2:Fr NoT w1 w2:=by rw[hw2];exact(Fr.refl _ _).alloc _
 have hk2:Bk w2 w1.heap.size 33 #[.int .i64 1,.slice Aa 0 ca,.int .i64 5,.int .i64 0,.int .i64 1,.slice (some ⟨b,o,none⟩) 5 ce]:=by rw[hw2];exact Bk.new _ _ _
 have HE:=hdq hE
 have HF2:=hdq (hf.trans hf2)
 have HF12:=hdq hf2
 have HK2:=hdq hk2
 have HW2:=hdq hw2
 have HBL:=hdq hbl
 have HZ2:=hdq (show w2.heap.size=w1.heap.size+1 from by rw[hw2];simp)
 clear hG hf hE hf2 hk2 hw2 hbl
 have c0:=HK2.out.cell 0
 have c2:=HK2.out.cell 2
 have c5:=HK2.out.cell 5
 have cl:=HK2.out.lt
 simp only[getsL]at c0 c2 c5
 go_wp2_with fail
 rw[←HW2.out]
 obtain⟨w5,hw5⟩:=nmq (((w2.alloc (.cells #[.int .u8 1,.int .u8 2,.int .u8 6,.int .u8 6,.int .u8 3] 52)).alloc (.cells #[.int .i64 0,.int .i64 2,.int .i64 3,.int .i64 3,.int .i64 4] 53)).alloc (.cells #[.int .i64 2,.int .i64 3,.int .i64 4,.int .i64 1,.int .i64 2] 53))
 have hf5:Fr NoT w2 w5:=by rw[hw5];exact(((Fr.refl _ _).alloc _).alloc _).alloc _
 have hb1:Bk w5 w2.heap.size 52 #[.int .u8 1,.int .u8 2,.int .u8 6,.int .u8 6,.int .u8 3]:=by rw[hw5];exact((Bk.new _ _ _).alloc _).alloc _
 have hb2:Bk w5 (w2.heap.size+1) 53 #[.int .i64 0,.int .i64 2,.int .i64 3,.int .i64 3,.int .i64 4]:=by rw[hw5];exact(Bk.new_at _ _ _ (by simp)).alloc _
 have hb3:Bk w5 (w2.heap.size+1+1) 53 #[.int .i64 2,.int .i64 3,.int .i64 4,.int .i64 1,.int .i64 2]:=by rw[hw5];exact Bk.new_at _ _ _ (by simp)
 have HW5:=hdq hw5
 have HF5:=hdq hf5
 have HB:=hdq (aiq hb1 (aiq hb2 hb3))
 clear hw5 hf5 hb1 hb2 hb3
 go_wp2_with fail
 rw[←HW5.out]
 clear c0 c2 c5 cl
 go_loopw [6] (fun i wr=>∃k:Nat,k≤5∧i= .int .i64 k∧Hid (Fr NoT w5 wr)) (fun i _=>5 - (intOf i).toNat)
 case atStart=>exact⟨0,Nat.zero_le _,rfl,hdq (Fr.refl _ _)⟩
 case round=>
  obtain⟨k,hk,rfl,hr⟩:=hrel
  have hk2:=HK2.out.fr0 (HF5.out.trans hr.out)
  have c5:=hk2.cell 5
  have cl:=hk2.lt
  simp only[getsL]at c5
  have hfr:=(HF12.out.trans HF5.out).trans hr.out
  have hbl:b < wr.heap.size:=ltq HBL.out hfr.size
  by_cases hlt:k < 5
  ·
   obtain⟨e,he,g1,g2,g3⟩:=lw_at k hlt
   obtain⟨e0,e1,e2,_⟩:=HE.out.cells he
   have q0:=(hfr.cell (p:=⟨b,o+k*7,none⟩) HBL.out id).trans e0
   have q1:=(hfr.cell (p:=⟨b,o+k*7+1,none⟩) HBL.out id).trans e1
   have q2:=(hfr.cell (p:=⟨b,o+k*7+2,none⟩) HBL.out id).trans e2
   have x1:=((HB.out.1.fr0 hr.out).cell k).trans g1
   have x2:=((HB.out.2.1.fr0 hr.out).cell k).trans g2
   have x3:=((HB.out.2.2.fr0 hr.out).cell k).trans g3
   have l1:=(HB.out.1.fr0 hr.out).lt
   have l2:=(HB.out.2.1.fr0 hr.out).lt
   have l3:=(HB.out.2.2.fr0 hr.out).lt
   have hlt':(k:Int) < 5:=by omega
   have hge:(0:Int)≤(k:Int):=by omega
   rw[HZ2.out]at x1 x2 x3 l1 l2 l3
   clear he g1 g2 g3 e0 e1 e2 hfr hk2
   go_wp2_with fail
   go_quiet (fail)
   go_wp2_with fail
   go_roundw
   case rel=>exact⟨k+1,by omega,by go_num,hdq (hr.out.drewN _)⟩
   case measure=>simp[intOf];omega
  ·
   have hlt':¬(k:Int) < 5:=by omega
   have hk5:k=5:=by omega
   subst hk5
   obtain⟨_,_,_,_,e2,_⟩:=HE.out.cells (i:=2) rfl
   obtain⟨_,_,_,_,e3,_⟩:=HE.out.cells (i:=3) rfl
   have q2:=(hfr.cell (p:=⟨b,o+2*7+4,none⟩) HBL.out id).trans e2
   have q3:=(hfr.cell (p:=⟨b,o+3*7+4,none⟩) HBL.out id).trans e3
   simp only[Nat.reduceMul,Nat.add_assoc,Nat.reduceAdd]at q2 q3
   have HFR:=hdq (HF2.out.trans (HF5.out.trans hr.out))
   clear e2 e3 hfr hk2
   go_wp2_with fail
   go_ret
   exact⟨rfl,HFR.out.plain⟩
end Go.Proofs.YtmfioehnhjjgpaaGreatDoor
