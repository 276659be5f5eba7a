/-
  Trees without places. No program.
-/
import Derived.Test.YtmfioehnhjjgpaaGreatDoorJnInE
set_option linter.unusedVariables false
set_option linter.unusedSimpArgs false
namespace Go.Proofs.YtmfioehnhjjgpaaGreatDoor
open Go.RowKit

def Exs.bare:Exs→Exs
 | .nil => .nil
 | .cons k nm n args _ rest=> .cons k nm n args.bare 0 rest.bare
def Cds.bare:Cds→Cds
 | .nil => .nil
 | .cons k args of_ _ rest=> .cons k args.bare of_.bare 0 rest.bare
def Sts.bare:Sts→Sts
 | .nil => .nil
 | .cons k nm args cond body els _ rest=> .cons k nm args.bare cond.bare body.bare els.bare 0 rest.bare
def Va.bare (x:Va):Va:=⟨x.nm,0⟩
def Arr.bare (x:Arr):Arr:=⟨x.nm,x.size,0⟩
def Prc.bare (x:Prc):Prc:=⟨x.nm,x.params.map Va.bare,x.body.bare,0⟩
def Tre.bare (t:Tre):Tre:=⟨t.vars.map Va.bare,t.arrays.map Arr.bare,t.procs.map Prc.bare,t.main.bare⟩
theorem zbf:∀xs:Exs,xs.bare.len=xs.len
 | .nil =>rfl
 | .cons _ _ _ _ _ r=>by simp only[Exs.bare,Exs.len,zbf r]
theorem zck:∀xs:Cds,xs.bare.len=xs.len
 | .nil =>rfl
 | .cons _ _ _ _ r=>by simp only[Cds.bare,Cds.len,zck r]
theorem zbS:∀xs:Sts,xs.bare.len=xs.len
 | .nil =>rfl
 | .cons _ _ _ _ _ _ _ r=>by simp only[Sts.bare,Sts.len,zbS r]

open Go.RowKit Go.Shelf

def OneAtB (cur cur':Array Value) (o m:Nat) (zs:List Value):Prop:=cur'.size=cur.size∧zs.length=m∧(∀j u,zs[j]?=some u→cur'[o+j]?=some u)∧∀j,(j < o∨o+m≤j)→cur'[j]?=cur[j]?
section
variable {α:Type} {one:World→(Nat→Prop)→α→List Value→Prop} {m:Nat} {br:α→α}
def zbH (one:World→(Nat→Prop)→α→List Value→Prop) (m f:Nat) (br:α→α) (x:α):Prop:=
 ∀(w:World) (S:Nat→Prop) (ys:List Value) (g o:Nat) (T:TypeId) (cur:Array Value),(∀b,S b→b < w.heap.size∧b≠g)→one w S x ys→Bk w g T cur→(∀j u,ys[j]?=some u→cur[o+j]?=some u)→
  Calls Tryz.prog f #[.pointer (some ⟨g,o,none⟩)] w fun e w'=>e= .returned (.tuple #[])∧∃zs cur',Bk w' g T cur'∧OneAtB cur cur' o m zs∧one w' (fun b=>w.heap.size≤b∧b < w'.heap.size) (br x) zs∧Fr (fun b=>b=g) w w'
structure BrSt (one:World→(Nat→Prop)→α→List Value→Prop) (m:Nat) (T:TypeId) (br:α→α) (w:World) (S:Nat→Prop) (xs:List α) (g:Nat) (wr:World) (cur:Array Value) (cs1 cs2:List Value) (k:Nat):Prop where
 bk:Bk wr g T cur
 fr:Fr NoT w wr
 c1:∀(j:Nat) (u:Value),cs1[j]?=some u→cur[j]?=some u
 l1:cs1.length=k*m
 c2:∀(j:Nat) (u:Value),cs2[j]?=some u→cur[k*m+j]?=some u
 r1:RowR one wr (fun b=>w.heap.size≤b∧b < wr.heap.size∧b≠g) ((xs.take k).map br) cs1
 r2:RowR one w S (xs.drop k) cs2
theorem BrSt.step (ho:OneK one) {T:TypeId} {w:World} {S:Nat→Prop} {xs:List α} {g:Nat} {wr:World} {cur:Array Value} {cs1 ys cs2:List Value} {k:Nat} {x:α} {r:List α} (h:BrSt one m T br w S xs g wr cur cs1 (ys++cs2) k) (hd:xs.drop k=x::r) (hm:ys.length=m) (hr:RowR one w S r cs2) (hgL:w.heap.size≤g)
  {w2:World} {cur':Array Value} {zs:List Value} (hbk:Bk w2 g T cur') (hone:OneAtB cur cur' (k*m) m zs) (hz:one w2 (fun b=>wr.heap.size≤b∧b < w2.heap.size) (br x) zs) (hf:Fr (fun b=>b=g) wr w2):
  BrSt one m T br w S xs g w2 cur' (cs1++zs) cs2 (k+1):=by
 have hg:=h.bk.lt
 have hsz:=h.fr.size
 have hsz2:=hf.size
 obtain⟨e1,e2,e3,e4⟩:=hone
 have hl1:=h.l1
 have hk1:xs[k]?=some x:=by
  have:=congrArg List.head? hd
  rw[List.head?_drop]at this
  exact this
 refine⟨hbk,Fr.back1 h.fr (hf.mono fun b _ (e:b=g)=>(by omega:w.heap.size≤b)) (lrq _),fun j u hj=>?_,by rw[List.length_append,hl1,e2,Nat.succ_mul],fun j u hj=>?_,?_,?_⟩
 ·by_cases hlt:j < cs1.length
  ·rw[List.getElem?_append_left hlt]at hj
   rw[e4 j (.inl (by omega))]
   exact h.c1 j u hj
  ·rw[List.getElem?_append_right (by omega),hl1]at hj
   have:=e3 _ u hj
   rw[show k*m+(j - k*m)=j from by omega]at this
   exact this
 ·rw[Nat.succ_mul,e4 _ (.inr (by omega)),Nat.add_assoc]
  refine h.c2 (m+j) u ?_
  rw[List.getElem?_append_right (by omega),hm,show m+j - m=j from by omega]
  exact hj
 ·rw[List.take_add_one,hk1,Option.toList_some,List.map_append]
  exact RowR.snoc (ho _ _ _ _ _ _ (SameS.refl _ _) (fun b hb=>⟨by have:=hb.1;omega,hb.2,by have:=hb.1;omega⟩) hz) (RowR.imp ho (hf.same fun b hb=>⟨hb.2.1,hb.2.2⟩) (fun b hb=>⟨hb.1,by have:=hb.2.1;omega,hb.2.2⟩) h.r1)
 ·have:xs.drop (k+1)=r:=by rw[←List.drop_drop,hd];rfl
  rw[this];exact hr
def BrP (one:World→(Nat→Prop)→α→List Value→Prop) (br:α→α) (xs:List α) (w:World) (e:Ending) (w':World):Prop:=
 ∃A' c',e= .returned (.slice A' xs.length c')∧xs.length≤c'∧c'≤9223372036854775807∧Fr NoT w w'∧(0 < xs.length→∃g zs,A'=some ⟨g,0,none⟩∧New w.heap.size w' g∧RowR one w' (New w.heap.size w') (xs.map br) zs∧∀j u,zs[j]?=some u→w'.cell? ⟨g,j,none⟩=some u)
theorem BrSt.done (ho:OneK one) {T:TypeId} {w:World} {S:Nat→Prop} {xs:List α} {g:Nat} {wr:World} {cur:Array Value} {cs1 cs2:List Value} (h:BrSt one m T br w S xs g wr cur cs1 cs2 xs.length) (hgL:w.heap.size≤g):
  New w.heap.size wr g∧RowR one wr (New w.heap.size wr) (xs.map br) cs1∧∀j u,cs1[j]?=some u→wr.cell? ⟨g,j,none⟩=some u:=by
 have h1:=h.r1
 rw[List.take_length]at h1
 exact⟨⟨hgL,h.bk.lt⟩,RowR.imp ho (SameS.refl _ _) (fun b hb=>⟨hb.1,hb.2.1⟩) h1,fun j u hj=>(h.bk.cell j).trans (h.c1 j u hj)⟩
end
def Ex.brz (x:Ex):Ex:=⟨x.k,x.nm,x.n,x.args.bare,0⟩
def Cn.brz (x:Cn):Cn:=⟨x.k,x.args.bare,x.of_.bare,0⟩
def St.brz (x:St):St:=⟨x.k,x.nm,x.args.bare,x.cond.bare,x.body.bare,x.els.bare,0⟩
theorem ziM:∀xs:Exs,zbo (xs.toL.map Ex.brz)=xs.bare
 | .nil =>rfl
 | .cons k nm n args at_ r=>by simp only[Exs.toL,List.map_cons,zbo,ziM r,Exs.bare];rfl
theorem ziN:∀xs:Cds,zcM (xs.toL.map Cn.brz)=xs.bare
 | .nil =>rfl
 | .cons k args of_ at_ r=>by simp only[Cds.toL,List.map_cons,zcM,ziN r,Cds.bare];rfl
end Go.Proofs.YtmfioehnhjjgpaaGreatDoor
