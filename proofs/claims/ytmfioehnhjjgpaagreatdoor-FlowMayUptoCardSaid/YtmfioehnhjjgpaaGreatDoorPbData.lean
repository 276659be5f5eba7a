/-
  print.bare: rows of statements and procedures; what a loop over a clone answers, for slices. Printed by wip/gen_pb/data.py.
-/
import Derived.Test.YtmfioehnhjjgpaaGreatDoorPbLoop
set_option linter.unusedVariables false
set_option linter.unusedSimpArgs false
namespace Go.Proofs.YtmfioehnhjjgpaaGreatDoor
open Go.RowKit

def Sts.toL:Sts→List St
 | .nil => []
 | .cons k nm args cond body els at_ r=>⟨k,nm,args,cond,body,els,at_⟩::r.toL
theorem Sts.of_toL:∀xs:Sts,zaf xs.toL=xs
 | .nil =>rfl
 | .cons k nm args cond body els at_ r=>by show Sts.cons _ _ _ _ _ _ _ (zaf r.toL)=_;rw[Sts.of_toL r]
theorem Sts.toL_len:∀xs:Sts,xs.toL.length=xs.len
 | .nil =>rfl
 | .cons k nm args cond body els at_ r=>by simp[Sts.toL,Sts.len,Sts.toL_len r]
theorem ziP:∀xs:Sts,zaf (xs.toL.map St.brz)=xs.bare
 | .nil =>rfl
 | .cons k nm args cond body els at_ r=>by simp only[Sts.toL,List.map_cons,zaf,ziP r,Sts.bare];rfl
section
variable {w:World} {S:Nat→Prop} {Z:Prop}
theorem zoB:∀ {xs:Sts} {b o:Nat},StR w S Z xs b o→∃cs:List Value,cs.length=xs.len*7∧RowR oneS w S xs.toL cs∧One1 cs∧∀j u,cs[j]?=some u→w.cell? ⟨b,o+j,none⟩=some u
 | .nil,_,_,_=>⟨[],rfl,rfl,by simp[One1],by simp⟩
 | .cons k nm args cond body els at_ rest,b,o,⟨⟨hb,_,r0,r1,h0,h1,h6⟩,⟨A,c,h2,hs⟩,⟨A2,c2,h3,hs2⟩,⟨A3,c3,h4,hs3⟩,⟨A4,c4,h5,hs4⟩,hr⟩=>by
  obtain⟨cs,hl,hrow,h1c,hcs⟩:=zoB hr
  refine⟨[.int .u8 k,.string nm,.slice A args.len c,.slice A2 cond.len c2,.slice A3 body.len c3,.slice A4 els.len c4,.int .i64 at_]++cs,by simp[Sts.len,hl];omega,⟨_,cs,rfl,⟨A,c,A2,c2,A3,c3,A4,c4,rfl,r0,r1,hs.imp fun _ _=>ExR.lax,hs2.imp fun _ _=>CdR.lax,hs3.imp fun _ _=>StR.lax,hs4.imp fun _ _=>StR.lax⟩,hrow⟩,One1.app ?_ h1c,zbl (fun j u hj=>?_) hcs⟩
  ·intro u hu
   simp only[List.mem_cons,List.not_mem_nil,or_false]at hu
   rcases hu with rfl|rfl|rfl|rfl|rfl|rfl|rfl<;>rfl
  ·match j with
   |0=>simpa using hj▸h0
   |1=>simpa using hj▸h1
   |2=>simpa using hj▸h2
   |3=>simpa using hj▸h3
   |4=>simpa using hj▸h4
   |5=>simpa using hj▸h5
   |6=>simpa using hj▸h6
   |j+7=>simp at hj
theorem zoC:∀ {xs:List Prc} {b o:Nat},PrR w S Z xs b o→∃cs:List Value,cs.length=xs.length*4∧RowR oneP w S xs cs∧One1 cs∧∀j u,cs[j]?=some u→w.cell? ⟨b,o+j,none⟩=some u
 | [],_,_,_=>⟨[],rfl,rfl,by simp[One1],by simp⟩
 |v::r,b,o,⟨⟨hb,_,r0,h0,h3⟩,⟨A,c,h1,hs⟩,⟨A2,c2,h2,hs2⟩,hr⟩=>by
  obtain⟨cs,hl,hrow,h1c,hcs⟩:=zoC hr
  refine⟨[.string v.nm,.slice A v.params.length c,.slice A2 v.body.len c2,.int .i64 v.at_]++cs,by simp[hl];omega,⟨_,cs,rfl,⟨A,c,A2,c2,rfl,r0,hs.imp fun _ _=>VaR.lax,hs2.imp fun _ _=>StR.lax⟩,hrow⟩,One1.app ?_ h1c,zbl (zeL h0 h1 h2 h3) hcs⟩
  intro u hu
  simp only[List.mem_cons,List.not_mem_nil,or_false]at hu
  rcases hu with rfl|rfl|rfl|rfl<;>rfl
theorem slS {xs:Sts} {A:Option Addr} {c:Nat} (hx:SlR (fun b o=>StR w S Z xs b o) xs.len 128 A c):∃cs:List Value,cs.length=xs.len*7∧RowR oneS w S xs.toL cs∧One1 cs∧(A=none→xs.len=0)∧∀ad,A=some ad→∀j u,cs[j]?=some u→w.cell? (ad.add j)=some u:=by
 rcases Nat.eq_zero_or_pos xs.len with h0|h0
 ·cases xs with
  |nil=>exact⟨[],rfl,rfl,by simp[One1],fun _=>rfl,by simp⟩
  |cons=>simp[Sts.len]at h0
 ·obtain⟨b,o,rfl,hat⟩:=hx.2.2 h0
  obtain⟨cs,hl,hr,h1,hc⟩:=zoB hat
  refine⟨cs,hl,hr,h1,fun h=>by simp at h,fun ad e j u hj=>?_⟩
  cases e
  rw[zd2]
  exact hc j u hj
theorem slP {xs:List Prc} {A:Option Addr} {c:Nat} (hx:SlR (PrR w S Z xs) xs.length 72 A c):∃cs:List Value,cs.length=xs.length*4∧RowR oneP w S xs cs∧One1 cs∧(A=none→xs.length=0)∧∀ad,A=some ad→∀j u,cs[j]?=some u→w.cell? (ad.add j)=some u:=by
 rcases Nat.eq_zero_or_pos xs.length with h0|h0
 ·have:=List.length_eq_zero_iff.1 h0
  subst this
  exact⟨[],rfl,rfl,by simp[One1],fun _=>rfl,by simp⟩
 ·obtain⟨b,o,rfl,hat⟩:=hx.2.2 h0
  obtain⟨cs,hl,hr,h1,hc⟩:=zoC hat
  refine⟨cs,hl,hr,h1,fun h=>by simp at h,fun ad e j u hj=>?_⟩
  cases e
  rw[zd2]
  exact hc j u hj
end
theorem OneAtB.refl {cur:Array Value} {o m:Nat} {zs:List Value} (hl:zs.length=m) (hc:∀j u,zs[j]?=some u→cur[o+j]?=some u):OneAtB cur cur o m zs:=⟨rfl,hl,hc,fun _ _=>rfl⟩
theorem OneAtB.set {cur cur':Array Value} {o m:Nat} {zs:List Value} (h:OneAtB cur cur' o m zs) (i:Nat) (v:Value) (hi:i < m):OneAtB cur (cur'.setIfInBounds (o+i) v) o m (zs.set i v):=by
 obtain⟨h1,h2,h3,h4⟩:=h
 have hz:o+i < cur'.size:=by
  have hi':i < zs.length:=by omega
  have:=h3 i zs[i] (List.getElem?_eq_getElem hi')
  exact(Array.getElem?_eq_some_iff.1 this).1
 refine⟨by simp[h1],by simp[h2],fun j u hj=>?_,fun j hj=>?_⟩
 ·by_cases e:i=j
  ·subst e
   rw[Array.getElem?_setIfInBounds_self_of_lt hz]
   rw[List.getElem?_set_self (by omega)]at hj
   exact hj
  ·rw[List.getElem?_set_ne e]at hj
   rw[Array.getElem?_setIfInBounds_ne (by omega)]
   exact h3 j u hj
 ·rw[Array.getElem?_setIfInBounds_ne (by omega)]
  exact h4 j hj
def BzX (xs:Exs):Prop:=∀(w:World) (S:Nat→Prop) (A:Option Addr) (c:Nat),(∀b,S b→b < w.heap.size)→SlR (fun b o=>ExR w S False xs b o) xs.len 64 A c→
 Calls Tryz.prog 67 #[.slice A xs.len c,.func (.func 68) #[] #[]] w fun e w'=>∃A' c',e= .returned (.slice A' xs.len c')∧SlR (fun b o=>ExR w' (New w.heap.size w') False xs.bare b o) xs.len 64 A' c'∧Fr NoT w w'
theorem zoD (xs:Exs) (hall:∀x∈xs.toL,zbH oneX 5 68 Ex.brz x):BzX xs:=by
 intro w S A c hS hx
 obtain⟨cs,hcl,hrow,hone,hnil,hcs⟩:=slX hx
 have h:=zqU xs.toL hall w S A c cs hS (by rw[Exs.toL_len];exact leq9 hx.1 hx.2.1.1) (by rw[Exs.toL_len];exact hx.2.1.2) (by rw[Exs.toL_len];exact hcl) hrow hone (by rw[Exs.toL_len];exact hnil) hcs
 rw[Exs.toL_len]at h
 refine h.mono ?_
 rintro e w' ⟨A',c',rfl,h1,h2,hf,hr⟩
 rw[Exs.toL_len]at h1 hr ⊢
 refine⟨A',c',rfl,⟨h1,⟨h2,hx.2.1.2⟩,fun h0=>?_⟩,hf⟩
 obtain⟨g,zs,rfl,hg,hrow,hcs⟩:=hr h0
 refine⟨g,0,rfl,?_⟩
 rw[←ziM]
 exact rowX hg hrow fun j u hj=>by rw[Nat.zero_add];exact hcs j u hj
def BzC (xs:Cds):Prop:=∀(w:World) (S:Nat→Prop) (A:Option Addr) (c:Nat),(∀b,S b→b < w.heap.size)→SlR (fun b o=>CdR w S False xs b o) xs.len 64 A c→
 Calls Tryz.prog 69 #[.slice A xs.len c,.func (.func 70) #[] #[]] w fun e w'=>∃A' c',e= .returned (.slice A' xs.len c')∧SlR (fun b o=>CdR w' (New w.heap.size w') False xs.bare b o) xs.len 64 A' c'∧Fr NoT w w'
theorem zoE (xs:Cds) (hall:∀x∈xs.toL,zbH oneC 4 70 Cn.brz x):BzC xs:=by
 intro w S A c hS hx
 obtain⟨cs,hcl,hrow,hone,hnil,hcs⟩:=slC hx
 have h:=zqV xs.toL hall w S A c cs hS (by rw[Cds.toL_len];exact leq9 hx.1 hx.2.1.1) (by rw[Cds.toL_len];exact hx.2.1.2) (by rw[Cds.toL_len];exact hcl) hrow hone (by rw[Cds.toL_len];exact hnil) hcs
 rw[Cds.toL_len]at h
 refine h.mono ?_
 rintro e w' ⟨A',c',rfl,h1,h2,hf,hr⟩
 rw[Cds.toL_len]at h1 hr ⊢
 refine⟨A',c',rfl,⟨h1,⟨h2,hx.2.1.2⟩,fun h0=>?_⟩,hf⟩
 obtain⟨g,zs,rfl,hg,hrow,hcs⟩:=hr h0
 refine⟨g,0,rfl,?_⟩
 rw[←ziN]
 exact rowC hg hrow fun j u hj=>by rw[Nat.zero_add];exact hcs j u hj
def BzS (xs:Sts):Prop:=∀(w:World) (S:Nat→Prop) (A:Option Addr) (c:Nat),(∀b,S b→b < w.heap.size)→SlR (fun b o=>StR w S False xs b o) xs.len 128 A c→
 Calls Tryz.prog 30 #[.slice A xs.len c,.func (.func 31) #[] #[]] w fun e w'=>∃A' c',e= .returned (.slice A' xs.len c')∧SlR (fun b o=>StR w' (New w.heap.size w') False xs.bare b o) xs.len 128 A' c'∧Fr NoT w w'
theorem zmf (xs:Sts) (hall:∀x∈xs.toL,zbH oneS 7 31 St.brz x):BzS xs:=by
 intro w S A c hS hx
 obtain⟨cs,hcl,hrow,hone,hnil,hcs⟩:=slS hx
 have h:=zqW xs.toL hall w S A c cs hS (by rw[Sts.toL_len];exact leq9 hx.1 hx.2.1.1) (by rw[Sts.toL_len];exact hx.2.1.2) (by rw[Sts.toL_len];exact hcl) hrow hone (by rw[Sts.toL_len];exact hnil) hcs
 rw[Sts.toL_len]at h
 refine h.mono ?_
 rintro e w' ⟨A',c',rfl,h1,h2,hf,hr⟩
 rw[Sts.toL_len]at h1 hr ⊢
 refine⟨A',c',rfl,⟨h1,⟨h2,hx.2.1.2⟩,fun h0=>?_⟩,hf⟩
 obtain⟨g,zs,rfl,hg,hrow,hcs⟩:=hr h0
 refine⟨g,0,rfl,?_⟩
 rw[←ziP]
 exact rowS hg hrow fun j u hj=>by rw[Nat.zero_add];exact hcs j u hj
def BzV (xs:List Va):Prop:=∀(w:World) (S:Nat→Prop) (A:Option Addr) (c:Nat),(∀b,S b→b < w.heap.size)→SlR (VaR w S False xs) xs.length 24 A c→
 Calls Tryz.prog 26 #[.slice A xs.length c,.func (.func 27) #[] #[]] w fun e w'=>∃A' c',e= .returned (.slice A' xs.length c')∧SlR (VaR w' (New w.heap.size w') False (xs.map Va.bare)) xs.length 24 A' c'∧Fr NoT w w'
theorem zq0 (xs:List Va) (hall:∀x∈xs,zbH oneV 2 27 Va.bare x):BzV xs:=by
 intro w S A c hS hx
 obtain⟨cs,hcl,hrow,hone,hnil,hcs⟩:=slV hx
 refine(zqX xs hall w S A c cs hS (leq9 hx.1 hx.2.1.1) hx.2.1.2 hcl hrow hone hnil hcs).mono ?_
 rintro e w' ⟨A',c',rfl,h1,h2,hf,hr⟩
 refine⟨A',c',rfl,⟨h1,⟨h2,hx.2.1.2⟩,fun h0=>?_⟩,hf⟩
 obtain⟨g,zs,rfl,hg,hrow,hcs⟩:=hr h0
 exact⟨g,0,rfl,rowV hg hrow fun j u hj=>by rw[Nat.zero_add];exact hcs j u hj⟩
def BzA (xs:List Arr):Prop:=∀(w:World) (S:Nat→Prop) (A:Option Addr) (c:Nat),(∀b,S b→b < w.heap.size)→SlR (ArR w S False xs) xs.length 32 A c→
 Calls Tryz.prog 28 #[.slice A xs.length c,.func (.func 29) #[] #[]] w fun e w'=>∃A' c',e= .returned (.slice A' xs.length c')∧SlR (ArR w' (New w.heap.size w') False (xs.map Arr.bare)) xs.length 32 A' c'∧Fr NoT w w'
theorem zq1 (xs:List Arr) (hall:∀x∈xs,zbH oneA 3 29 Arr.bare x):BzA xs:=by
 intro w S A c hS hx
 obtain⟨cs,hcl,hrow,hone,hnil,hcs⟩:=slA hx
 refine(zqY xs hall w S A c cs hS (leq9 hx.1 hx.2.1.1) hx.2.1.2 hcl hrow hone hnil hcs).mono ?_
 rintro e w' ⟨A',c',rfl,h1,h2,hf,hr⟩
 refine⟨A',c',rfl,⟨h1,⟨h2,hx.2.1.2⟩,fun h0=>?_⟩,hf⟩
 obtain⟨g,zs,rfl,hg,hrow,hcs⟩:=hr h0
 exact⟨g,0,rfl,rowA hg hrow fun j u hj=>by rw[Nat.zero_add];exact hcs j u hj⟩
def BzP (xs:List Prc):Prop:=∀(w:World) (S:Nat→Prop) (A:Option Addr) (c:Nat),(∀b,S b→b < w.heap.size)→SlR (PrR w S False xs) xs.length 72 A c→
 Calls Tryz.prog 32 #[.slice A xs.length c,.func (.func 33) #[] #[]] w fun e w'=>∃A' c',e= .returned (.slice A' xs.length c')∧SlR (PrR w' (New w.heap.size w') False (xs.map Prc.bare)) xs.length 72 A' c'∧Fr NoT w w'
theorem zq2 (xs:List Prc) (hall:∀x∈xs,zbH oneP 4 33 Prc.bare x):BzP xs:=by
 intro w S A c hS hx
 obtain⟨cs,hcl,hrow,hone,hnil,hcs⟩:=slP hx
 refine(zqZ xs hall w S A c cs hS (leq9 hx.1 hx.2.1.1) hx.2.1.2 hcl hrow hone hnil hcs).mono ?_
 rintro e w' ⟨A',c',rfl,h1,h2,hf,hr⟩
 refine⟨A',c',rfl,⟨h1,⟨h2,hx.2.1.2⟩,fun h0=>?_⟩,hf⟩
 obtain⟨g,zs,rfl,hg,hrow,hcs⟩:=hr h0
 exact⟨g,0,rfl,rowP hg hrow fun j u hj=>by rw[Nat.zero_add];exact hcs j u hj⟩
end Go.Proofs.YtmfioehnhjjgpaaGreatDoor
