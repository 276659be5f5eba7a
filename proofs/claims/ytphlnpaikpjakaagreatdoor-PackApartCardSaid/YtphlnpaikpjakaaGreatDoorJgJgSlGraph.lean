/-
  flow.Graph, of a tree of sets and whiles that calls nothing.
-/
import Derived.Test.YtphlnpaikpjakaaGreatDoorJnFg6
import Derived.Test.YtphlnpaikpjakaaGreatDoorJgPs
set_option linter.unusedVariables false
set_option linter.unusedSimpArgs false
namespace Go.Proofs.YtphlnpaikpjakaaGreatDoor
open Go.RowKit Go.Shelf

def slStm:Sts→Prop
 | .nil =>True
 | .cons k nm args cond body els _ r=>(k=2∨k=8∧∃k0 a0 o0 t0 r0,cond= .cons k0 a0 o0 t0 r0∧szQ a0∧1≤k0∧k0≤8)∧nm.size≤9223372036854775807∧szQ args∧slStm body∧slStm els∧slStm r
theorem blkI0 (C:FgC):∀xs:Sts,slStm xs→BlkI C xs
 | .nil,_,i,_,_,_,_,_,_,_,_,h=>by cases i<;>simp[Sts.drop]at h
 | .cons k nm args cond body els at_ r,hw,0,k0,n0,a0,c0,b0,e0,t0,r0,h=>by
  simp only[Sts.drop,Sts.cons.injEq]at h
  obtain⟨rfl,rfl,rfl,rfl,rfl,rfl,rfl,_⟩:=h
  obtain⟨h1,h3,h4,h7,h8,_⟩:=hw
  rcases h1 with rfl|⟨rfl,k1,a1,o1,t1,r1,rfl,h5,h6,h9⟩
  ·exact stm_2 C _ _ _ _ _ _ h3 h4
  ·exact stm_8 C _ _ _ _ _ _ k1 a1 o1 t1 r1 rfl (cond_leaf C k1 a1 o1 t1 h5 h6 h9) (fblk_any C _ (blkI0 C _ h7))
 | .cons k nm args cond body els at_ r,hw,i+1,k0,n0,a0,c0,b0,e0,t0,r0,h=>by
  simp only[Sts.drop]at h
  exact blkI0 C r hw.2.2.2.2.2 i k0 n0 a0 c0 b0 e0 t0 r0 h
theorem block0 (C:FgC) (xs:Sts) (h:slStm xs):FBlk C xs:=fblk_any C xs (blkI0 C xs h)
theorem stc0 {K:InK} (hk:K.Ok) (xs:Sts) (hl:LvB K.procs (fun _=>False) xs) (hz:szS xs):StC K (inlF K.procs 0) xs:=
 stc_of hk (low:=fun _=>False) (fun ys hl hz i a1 a2 a3 a4 a5 a6 ar hd=>by
  obtain⟨x,_,_,h⟩:=(lvB_at i hl hz hd).1 rfl
  exact h.elim) xs hl hz
theorem inl0 (t:Tre) (w:World) (S:Nat→Prop) (Z:Prop) (Av Aa Ap Am:Option Addr) (cv ca cp cm:Nat) (he:SpEnv w) (htab:Lib.TabIs Tryz.prog w "internal/strconv.uint64pow10" .u64 Lib.pow10Tab) (hS:∀b,S b→b < w.heap.size) (hsz:SzT t) (hx:TrR w S Z t Av Aa Ap Am cv ca cp cm)
  (ha:t.arrays= []) (hk:kdS t.main) (ht:okTr t=true) (hf:fewT t=true) (hp:t.procs= []) (hv:t.vars.length≤12) (hl:LvB (fun _=>none) (fun _=>False) t.main):
  Calls Tryz.prog 30 #[trV t Av Aa Ap Am cv ca cp cm] w (InlP (inlT t) w):=
 inl_of t w S Z Av Aa Ap Am cv ca cp cm htab hS hsz hx (fun w1 hf1=>ctree0 t w1 S Z Av Aa Ap Am cv ca cp cm (he.keep hf1.plain) (fun b hb=>ltq (hS b hb) hf1.size) hsz (hx.keep (hf1.same fun b hb=>⟨hS b hb,id⟩)) ha hp hk ht hf)
  fun _=>by
   rw[hp]
   exact⟨hv,fun y x h=>(by cases h),fun K hk e=>stc0 hk t.main (by rw[e];exact hl) hsz.main⟩

open Go.RowKit Go.Shelf Go.Maps

def TruePost (W:World) (e:Ending) (w':World):Prop:=e= .returned (.bool true)∧Below W.heap.size W w'
def wordsB (l:List Tk):Bool:=l.all fun t=>t.text != [97,114,114,97,121]&&t.text != [112,114,111,99]
def blockB (l:List Tk):Bool:=match blockQ 24 l with| .ok _ _=>true| .err _ _=>false
def mainsB (l:List Tk):Bool:=(List.range l.length).all fun j=> !mayB [109,97,105,110] (l.drop j) || blockB (l.drop j).tail
theorem plainT_of {s:List UInt8} {T:Tre} {r0:List Tk} (h0:(toks s).2.2 =0) (h1:treeP ((toks s).1 ++ [endT s])= .ok T r0) (h2:wordsB ((toks s).1 ++ [endT s])=true) (h3:mainsB ((toks s).1 ++ [endT s])=true):PlainT s T r0:=by
 refine⟨h0,h1,fun t ht=>?_,fun j hj=>?_⟩
 ·have:=List.all_eq_true.1 h2 t ht
  simpa using this
 ·obtain⟨l,hl⟩:=nmq ((toks s).1 ++ [endT s])
  rw[←hl]at h3 hj ⊢
  by_cases hjl:j < l.length
  ·have:=List.all_eq_true.1 h3 j (List.mem_range.2 hjl)
   rw[hj]at this
   simp only[Bool.not_true,Bool.false_or]at this
   unfold blockB at this
   split at this
   ·rename_i b r he
    exact⟨b,r,he⟩
   ·cases this
  ·rw[List.drop_eq_nil_of_le (by omega)]at hj
   exact absurd hj (by decide)
def lbX:ByteArray:=⟨#[120]⟩

def p30:List UInt8:= [118,97,114,32,120,44,121,44,122,59,109,97,105,110,123,120,61,121,59,122,61,49,59,125]
def lbY:ByteArray:=⟨#[121]⟩
def lbZ:ByteArray:=⟨#[122]⟩
def p31:Tre:=⟨[⟨lbX,4⟩,⟨lbY,6⟩,⟨lbZ,8⟩], [], [],.cons 2 lbX (.cons 2 lbY 0 .nil 17 .nil) .nil .nil .nil 15 (.cons 2 lbZ (.cons 1 ⟨#[]⟩ 1 .nil 21 .nil) .nil .nil .nil 19 .nil)⟩
set_option maxRecDepth 100000 in
theorem p3_ok:PlainT p30 p31 [endT p30]:=plainT_of (by kernel_rfl) (by kernel_rfl) (by kernel_rfl) (by kernel_rfl)
theorem p3_parse:parseB p30=(p31,0,0):=p3_ok.par
def p3G:Gr:=⟨3, [],3,0,1, [⟨0,2,3,0,0,.cons 2 lbY 1 .nil 17 .nil,15⟩,⟨2,1,3,2,0,.cons 1 ⟨#[]⟩ 1 .nil 21 .nil,19⟩]⟩
theorem p3_gra:graT p31=(p3G,0):=by kernel_rfl
theorem p3_may:mayG p3G=true:=by kernel_rfl
theorem p3_sz:SzT p31:=by
 refine⟨fun x hx=>?_,fun x hx=>by simp[p31]at hx,fun x hx=>by simp[p31]at hx,?_⟩
 ·simp only[p31,List.mem_cons,List.not_mem_nil,or_false]at hx
  rcases hx with rfl|rfl|rfl<;>decide
 ·unfold p31
  simp only[szS,szX,szC]
  decide
theorem p3_inl:inlT p31=(p31,0):=by kernel_rfl
theorem p3_graph (w:World) (S:Nat→Prop) (Z:Prop) (Av Aa Ap Am:Option Addr) (cv ca cp cm:Nat) (he:SpEnv w) (htab:Lib.TabIs Tryz.prog w "internal/strconv.uint64pow10" .u64 Lib.pow10Tab) (hS:∀b,S b→b < w.heap.size) (hx:TrR w S Z p31 Av Aa Ap Am cv ca cp cm):
  Calls Tryz.prog 14 #[trV p31 Av Aa Ap Am cv ca cp cm] w (GraP (p3G,0) w):=by
 have h:=graph_of p31 w Av Aa Ap Am cv ca cp cm (fun w1 hf1=>inl0 p31 w1 S Z Av Aa Ap Am cv ca cp cm (he.keep hf1.plain) (tab_keep hf1 htab) (fun b hb=>ltq (hS b hb) hf1.size) p3_sz (hx.keep (hf1.same fun b hb=>⟨hS b hb,id⟩)) rfl (by unfold p31;simp[kdS]) (by kernel_rfl) (by kernel_rfl) rfl (by decide) (by unfold p31;simp[LvB]))
  (fun _=>by
   rw[p3_inl]
   refine⟨fun C=>block0 C _ ?_,by unfold p31;simp only[szT,szM,szN];decide,⟨p3_sz.vars,by decide⟩,p3_sz.arrays,by decide⟩
   unfold p31
   refine⟨.inl rfl,by decide,?_,trivial,trivial,.inl rfl,by decide,?_,trivial,trivial,trivial⟩<;>(simp only[szQ];decide))
 rw[p3_gra]at h
 exact h
theorem p3_par (w:World) (he:NameEnv w):Calls Tryz.prog 13 #[.string ⟨p30.toArray⟩] w (ParsP (p31,0,0) w):=by
 have h:=parse_ok ⟨p30.toArray⟩ p31 [endT p30] (show PlainT p30 p31 [endT p30]from p3_ok) (by decide) w he
 rw[show(⟨p30.toArray⟩:ByteArray).data.toList =p30 from rfl,p3_parse]at h
 exact h
end Go.Proofs.YtphlnpaikpjakaaGreatDoor
