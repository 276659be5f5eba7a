/-
  Plain runs of trees: what expressions and conditions have, how statements end. No program.
-/
import Derived.Test.YtfomomaomggpbaaGreatDoorJgOpC
set_option linter.unusedVariables false
set_option linter.unusedSimpArgs false
namespace Go.Proofs.YtfomomaomggpbaaGreatDoor
open Go.RowKit

structure Bs where
 vs:List Int
 ls:List (List Int)
 script:List Int
 left:Nat
 own:List Int
structure Ho where
 kind:Int
 wrong:Int
 at_:Int
structure Bn where
 vars:List (List UInt8)
 arrs:List (List UInt8)
 procs:List UInt8→Option Prc
def posI:List (List UInt8)→List UInt8→Option Nat
 | [],_=>none
 |x::r,t=>if x=t then some 0 else(posI r t).map (· +1)
def getV (n:Bn) (ps:List (List UInt8)) (s:Bs) (nm:ByteArray):Int:=
 match posI ps nm.data.toList with
 |some k=>s.own.getD k 0
 |none=>s.vs.getD ((posI n.vars nm.data.toList).getD 0) 0
def setB (n:Bn) (ps:List (List UInt8)) (s:Bs) (nm:ByteArray) (x:Int):Bs:=
 match posI ps nm.data.toList with
 |some k=>{s with own:=s.own.set k x}
 |none=>{s with vs:=s.vs.set ((posI n.vars nm.data.toList).getD 0) x}
def arrI (n:Bn) (nm:ByteArray):Nat:=(posI n.arrs nm.data.toList).getD 0
def headV (n:Bn) (ps:List (List UInt8)) (s:Bs) (k:Int) (nm:ByteArray) (m:Int) (at_:Int) (l:List Int):Ho ⊕ Int:=
 if k=1 then .inr m
 else if k=2 then .inr (getV n ps s nm)
 else if k=3 then
  if 0≤l.getD 0 0∧l.getD 0 0 < (s.ls.getD (arrI n nm) []).length then .inr ((s.ls.getD (arrI n nm) []).getD (l.getD 0 0).toNat 0)else .inl ⟨5,5,at_⟩
 else if opW k (l.getD 0 0) (l.getD 1 0)=0 then .inr (opR k (l.getD 0 0) (l.getD 1 0))else .inl ⟨5,opW k (l.getD 0 0) (l.getD 1 0),at_⟩
def valL (n:Bn) (ps:List (List UInt8)) (s:Bs):Exs→Ho ⊕ List Int
 | .nil => .inr []
 | .cons k nm m args at_ r=>
  match valL n ps s args with
  | .inl h=> .inl h
  | .inr l=>match headV n ps s k nm m at_ l with
   | .inl h=> .inl h
   | .inr x=>match valL n ps s r with
    | .inl h=> .inl h
    | .inr q=> .inr (x::q)
abbrev Tru:=Nat→(Ho ⊕ Bool)×Nat
def truF (n:Bn) (ps:List (List UInt8)) (s:Bs) (k:Int) (args:Exs) (of_:List Tru) (at_:Int):Tru:=fun left=>
 if k=1 then(.inr true,left)
 else if k=2 then(.inr false,left)
 else if k=9 then
  match (of_.getD 0 fun l=>(.inr false,l)) left with
  |(.inr b,l)=>(.inr (!b),l)
  |(.inl h,l)=>(.inl h,l)
 else if k=10 then
  match (of_.getD 0 fun l=>(.inr false,l)) left with
  |(.inr true,l)=>(of_.getD 1 fun l=>(.inr false,l)) l
  |r=>r
 else if k=11 then
  match (of_.getD 0 fun l=>(.inr false,l)) left with
  |(.inr false,l)=>(of_.getD 1 fun l=>(.inr false,l)) l
  |r=>r
 else match left with
  |0=>(.inl ⟨2,0,at_⟩,0)
  |left+1=>match valL n ps s args with
   | .inl h=>(.inl h,left)
   | .inr l=>(.inr (cmpB k (l.getD 0 0) (l.getD 1 0)),left)
def truC (n:Bn) (ps:List (List UInt8)) (s:Bs):Cds→List Tru
 | .nil => []
 | .cons k args of_ at_ r=>truF n ps s k args (truC n ps s of_) at_::truC n ps s r
def truH (n:Bn) (ps:List (List UInt8)) (s:Bs) (cond:Cds):Tru:=(truC n ps s cond).getD 0 fun l=>(.inr false,l)
def plainO (n:Bn) (ps:List (List UInt8)) (s:Bs) (k:Int) (nm:ByteArray) (args:Exs) (at_:Int):Option Ho×Bs:=
 match s.left with
 |0=>(some ⟨2,0,at_⟩,s)
 |left+1=>
  let t:Bs:={s with left:=left}
  if k=2 then
   match valL n ps t args with
   | .inl h=>(some h,t)
   | .inr l=>(none,setB n ps t nm (l.getD 0 0))
  else if k=3 then
   match valL n ps t args with
   | .inl h=>(some h,t)
   | .inr l=>
    if 0≤l.getD 0 0∧l.getD 0 0 < (t.ls.getD (arrI n nm) []).length then
     (none,{t with ls:=t.ls.set (arrI n nm) ((t.ls.getD (arrI n nm) []).set (l.getD 0 0).toNat (l.getD 1 0))})
    else(some ⟨5,5,at_⟩,t)
  else if k=4 then
   match t.script with
   | []=>(some ⟨3,0,at_⟩,t)
   |x::q=>(none,setB n ps {t with script:=q} nm x)
  else(none,t)
def givenO (n:Bn) (ps:List (List UInt8)) (at_:Int):List Va→Exs→Bs→(Ho ⊕ List Int)×Bs
 | [],_,s=>(.inr [],s)
 |_::r,.cons k nm m a b q,s=>
  match s.left with
  |0=>(.inl ⟨2,0,at_⟩,s)
  |left+1=>
   match valL n ps {s with left:=left} (.cons k nm m a b .nil)with
   | .inl h=>(.inl h,{s with left:=left})
   | .inr l=>match givenO n ps at_ r q {s with left:=left}with
    |(.inl h,t)=>(.inl h,t)
    |(.inr xs,t)=>(.inr (l.getD 0 0::xs),t)
 |_::_,.nil,s=>(.inr [],s)
inductive Tsk where
 |all (ps:List (List UInt8)) (xs:Sts)
 |one (ps:List (List UInt8)) (k:Int) (nm:ByteArray) (args:Exs) (cond:Cds) (body els:Sts) (at_:Int)
inductive RunT (n:Bn):Tsk→Bs→Option Ho→Bs→Prop
 |nil {ps s}:RunT n (.all ps .nil) s none s
 |next {ps k nm args cond body els at_ r s s1 h s2}:RunT n (.one ps k nm args cond body els at_) s none s1→RunT n (.all ps r) s1 h s2→RunT n (.all ps (.cons k nm args cond body els at_ r)) s h s2
 |stop {ps k nm args cond body els at_ r s s1 h}:RunT n (.one ps k nm args cond body els at_) s (some h) s1→RunT n (.all ps (.cons k nm args cond body els at_ r)) s (some h) s1
 |plain {ps k nm args cond body els at_ s}:k≤4→RunT n (.one ps k nm args cond body els at_) s (plainO n ps s k nm args at_).1 (plainO n ps s k nm args at_).2
 |fault {ps k nm args cond body els at_ s h l}:5≤k→k≤7→truH n ps s cond s.left=(.inl h,l)→RunT n (.one ps k nm args cond body els at_) s (some h) {s with left:=l}
 |holds {ps k nm args cond body els at_ s l}:k=5∨k=6→truH n ps s cond s.left=(.inr true,l)→RunT n (.one ps k nm args cond body els at_) s none {s with left:=l}
 |fails {ps k nm args cond body els at_ s l}:k=5∨k=6→truH n ps s cond s.left=(.inr false,l)→RunT n (.one ps k nm args cond body els at_) s (some (if k=5 then⟨4,0,at_⟩else⟨5,1,at_⟩)) {s with left:=l}
 |yes {ps nm args cond body els at_ s l h t}:truH n ps s cond s.left=(.inr true,l)→RunT n (.all ps body) {s with left:=l} h t→RunT n (.one ps 7 nm args cond body els at_) s h t
 |no {ps nm args cond body els at_ s l h t}:truH n ps s cond s.left=(.inr false,l)→RunT n (.all ps els) {s with left:=l} h t→RunT n (.one ps 7 nm args cond body els at_) s h t
 |out {ps k nm args cond body els at_ s}:k=8∨k=9→s.left=0→RunT n (.one ps k nm args cond body els at_) s (some ⟨2,0,at_⟩) s
 |ask {ps nm args cond body els at_ s m h l}:s.left=m+1→truH n ps {s with left:=m} cond m=(.inl h,l)→RunT n (.one ps 8 nm args cond body els at_) s (some h) {s with left:=l}
 |done {ps nm args cond body els at_ s m l}:s.left=m+1→truH n ps {s with left:=m} cond m=(.inr false,l)→RunT n (.one ps 8 nm args cond body els at_) s none {s with left:=l}
 |leave {ps nm args cond body els at_ s m l h t}:s.left=m+1→truH n ps {s with left:=m} cond m=(.inr true,l)→RunT n (.all ps body) {s with left:=l} (some h) t→RunT n (.one ps 8 nm args cond body els at_) s (some h) t
 |again {ps nm args cond body els at_ s m l t h u}:s.left=m+1→truH n ps {s with left:=m} cond m=(.inr true,l)→RunT n (.all ps body) {s with left:=l} none t→RunT n (.one ps 8 nm args cond body els at_) t h u→RunT n (.one ps 8 nm args cond body els at_) s h u
 |give {ps nm args cond body els at_ s m p h t}:s.left=m+1→n.procs nm.data.toList=some p→givenO n ps at_ p.params args {s with left:=m}=(.inl h,t)→RunT n (.one ps 9 nm args cond body els at_) s (some h) t
 |call {ps nm args cond body els at_ s m p xs t h u}:s.left=m+1→n.procs nm.data.toList=some p→givenO n ps at_ p.params args {s with left:=m}=(.inr xs,t)→
   RunT n (.all (p.params.map (·.nm.data.toList)) p.body) {t with own:=xs} h u→RunT n (.one ps 9 nm args cond body els at_) s h {u with own:=t.own}

def goodS (n:Bn):Sts→Prop
 | .nil =>True
 | .cons k nm args cond body els _ r=>(1≤k∧k≤9)∧(k=9→∃p,n.procs nm.data.toList=some p)∧goodS n body∧goodS n els∧goodS n r
theorem truF_left {n:Bn} {ps:List (List UInt8)} {s:Bs} {k:Int} {args:Exs} {of_:List Tru} {at_:Int} (h:∀t∈of_,∀l,(t l).2 ≤l) (l:Nat):(truF n ps s k args of_ at_ l).2 ≤l:=by
 have hg:∀i l,((of_.getD i fun l=>(.inr false,l)) l).2 ≤l:=by
  intro i l
  rw[List.getD_eq_getElem?_getD]
  cases e:of_[i]? with
  |none=>exact lrq _
  |some t=>exact h t (List.mem_of_getElem? e) l
 have h0:=hg 0 l
 unfold truF
 split
 ·exact lrq _
 split
 ·exact lrq _
 split
 ·split<;>rename_i e<;>rw[e]at h0<;>exact h0
 split
 ·split
  ·rename_i e;rw[e]at h0;exact leq9 (hg 1 _) h0
  ·exact h0
 split
 ·split
  ·rename_i e;rw[e]at h0;exact leq9 (hg 1 _) h0
  ·exact h0
 split
 ·exact lrq _
 ·split<;>simp
theorem truC_left (n:Bn) (ps:List (List UInt8)) (s:Bs):∀xs,∀t∈truC n ps s xs,∀l,(t l).2 ≤l
 | .nil,t,h,_=>by simp[truC]at h
 | .cons k args of_ at_ r,t,h,l=>by
  simp only[truC,List.mem_cons]at h
  rcases h with rfl|h
  ·exact truF_left (truC_left n ps s of_) l
  ·exact truC_left n ps s r t h l
theorem truH_left (n:Bn) (ps:List (List UInt8)) (s:Bs) (xs:Cds) (l:Nat):(truH n ps s xs l).2 ≤l:=by
 unfold truH
 rw[List.getD_eq_getElem?_getD]
 cases e:(truC n ps s xs)[0]? with
 |none=>exact lrq _
 |some t=>exact truC_left n ps s xs t (List.mem_of_getElem? e) l
theorem truH_lt {n:Bn} {ps:List (List UInt8)} {s:Bs} {xs:Cds} {l m:Nat} {r:Ho ⊕ Bool} (e:truH n ps s xs m=(r,l)):l≤m:=by
 have h:=truH_left n ps s xs m
 rw[e]at h
 exact h
theorem setB_left (n:Bn) (ps:List (List UInt8)) (s:Bs) (nm:ByteArray) (x:Int):(setB n ps s nm x).left =s.left:=by
 unfold setB
 split<;>rfl
theorem plainO_left (n:Bn) (ps:List (List UInt8)) (s:Bs) (k:Int) (nm:ByteArray) (args:Exs) (at_:Int):(plainO n ps s k nm args at_).2.left ≤s.left:=by
 unfold plainO
 split
 ·exact lrq _
 ·rename_i l e
  dsimp only
  rw[e]
  repeat' split
  all_goals first|exact Nat.le_succ _|(simp only[setB_left];exact Nat.le_succ _)
theorem givenO_left (n:Bn) (ps:List (List UInt8)) (at_:Int):∀(vs:List Va) (xs:Exs) (s:Bs),(givenO n ps at_ vs xs s).2.left ≤s.left
 | [],_,s=>lrq _
 |_::r,.nil,s=>lrq _
 |_::r,.cons k nm m a b q,s=>by
  unfold givenO
  split
  ·exact lrq _
  ·rename_i l e
   have ih:=givenO_left n ps at_ r q {s with left:=l}
   rw[e]
   split
   ·exact Nat.le_succ _
   ·split<;>rename_i e2<;>rw[e2]at ih<;>exact leq9 ih (Nat.le_succ _)
theorem RunT.left_le {n:Bn} {tsk:Tsk} {s t:Bs} {h:Option Ho} (r:RunT n tsk s h t):t.left≤s.left:=by
 induction r with
 |nil=>exact lrq _
 |next _ _ h1 h2=>exact leq9 h2 h1
 |stop _ h1=>exact h1
 |plain _=>exact plainO_left ..
 |fault _ _ e=>exact truH_lt e
 |holds _ e=>exact truH_lt e
 |fails _ e=>exact truH_lt e
 |yes e _ h1=>exact leq9 h1 (truH_lt e)
 |no e _ h1=>exact leq9 h1 (truH_lt e)
 |out _ _=>exact lrq _
 | @ask ps nm args cond body els at_ s m h l e1 e=>have h0:=truH_lt e;show l≤s.left;omega
 | @done ps nm args cond body els at_ s m l e1 e=>have h0:=truH_lt e;show l≤s.left;omega
 | @leave ps nm args cond body els at_ s m l h t e1 e _ h1=>have h0:=truH_lt e;have h1:t.left≤l:=h1;omega
 | @again ps nm args cond body els at_ s m l t h u e1 e _ _ h1 h2=>have h0:=truH_lt e;have h1:t.left≤l:=h1;omega
 | @give ps nm args cond body els at_ s m p h t e1 _ e=>have h0:=givenO_left n ps at_ p.params args {s with left:=m};rw[e]at h0;have h0:t.left≤m:=h0;omega
 | @call ps nm args cond body els at_ s m p xs t h u e1 _ e _ h1=>have h0:=givenO_left n ps at_ p.params args {s with left:=m};rw[e]at h0;have h0:t.left≤m:=h0;have h1:u.left≤t.left:=h1;show u.left≤s.left;omega
section
variable {n:Bn} (hp:∀x p,n.procs x=some p→goodS n p.body) (m:Nat) (IH:∀s:Bs,s.left < m→∀ps xs,goodS n xs→∃h t,RunT n (.all ps xs) s h t)
include hp IH
end
end Go.Proofs.YtfomomaomggpbaaGreatDoor

namespace Go.Proofs.YtfomomaomggpbaaGreatDoor
open Go.RowKit

theorem valL_left (n:Bn) (ps:List (List UInt8)) (s:Bs) (a:Nat):∀xs,valL n ps {s with left:=a} xs=valL n ps s xs
 | .nil =>rfl
 | .cons k nm m args at_ r=>by
  simp only[valL,valL_left n ps s a args,valL_left n ps s a r]
  rfl
theorem truF_at (n:Bn) (ps:List (List UInt8)) (s:Bs) (a:Nat) (k:Int) (args:Exs) (of_:List Tru) (at_:Int):truF n ps {s with left:=a} k args of_ at_=truF n ps s k args of_ at_:=by
 funext l
 unfold truF
 rw[valL_left]
theorem truC_at (n:Bn) (ps:List (List UInt8)) (s:Bs) (a:Nat):∀xs,truC n ps {s with left:=a} xs=truC n ps s xs
 | .nil =>rfl
 | .cons k args of_ at_ r=>by simp only[truC,truF_at,truC_at n ps s a of_,truC_at n ps s a r]
end Go.Proofs.YtfomomaomggpbaaGreatDoor
