/- Plain runs of trees: what expressions and conditions have, how statements end. -/
import Derived.Test.YtfomomaomggpbaaGreatDoorJgOpC
set_option linter.all false
namespace Go.Proofs.YtfomomaomggpbaaGreatDoor
open Go.RowKit
structure Bs where
 vs:List Int
 ls:List (List Int)
 script:List Int
 left:Nat
 own:List Int
structure Ho where
 kind:Int
 wrong:Int
 at_:Int
structure Bn where
 vars:List (List UInt8)
 arrs:List (List UInt8)
 procs:List UInt8->Option Prc
def posI:List (List UInt8)->List UInt8->Option Nat
 | [],_=>none
 |x::r,t=>if x=t then some 0 else(posI r t).map (· +1)
def getV (n:Bn)(ps:List (List UInt8))(s:Bs)(nm:ByteArray):Int:=
 match posI ps nm.data.toList with
 |some k=>s.own.getD k 0
 |none=>s.vs.getD ((posI n.vars nm.data.toList).getD 0) 0
def setB (n:Bn)(ps:List (List UInt8))(s:Bs)(nm:ByteArray)(x:Int):Bs:=
 match posI ps nm.data.toList with
 |some k=>{s with own:=s.own.set k x}
 |none=>{s with vs:=s.vs.set ((posI n.vars nm.data.toList).getD 0) x}
def arrI (n:Bn)(nm:ByteArray):Nat:=(posI n.arrs nm.data.toList).getD 0
def zd3 (n:Bn)(ps:List (List UInt8))(s:Bs)(k:Int)(nm:ByteArray)(m:Int)(at_:Int)(l:List Int):Ho ⊕ Int:=
 if k=1 then .inr m
 else if k=2 then .inr (getV n ps s nm)
 else if k=3 then
  if 0<=l.getD 0 0/\l.getD 0 0 < (s.ls.getD (arrI n nm) []).length then .inr ((s.ls.getD (arrI n nm) []).getD (l.getD 0 0).toNat 0)else .inl ⟨5,5,at_⟩
 else if opW k (l.getD 0 0) (l.getD 1 0)=0 then .inr (opR k (l.getD 0 0) (l.getD 1 0))else .inl ⟨5,opW k (l.getD 0 0) (l.getD 1 0),at_⟩
def valL (n:Bn)(ps:List (List UInt8))(s:Bs):Exs->Ho ⊕ List Int
 | .nil => .inr []
 | .cons k nm m args at_ r=>
  match valL n ps s args with
  | .inl h=> .inl h
  | .inr l=>match zd3 n ps s k nm m at_ l with
   | .inl h=> .inl h
   | .inr x=>match valL n ps s r with
    | .inl h=> .inl h
    | .inr q=> .inr (x::q)
abbrev Tru:=Nat->(Ho ⊕ Bool)×Nat
def truF (n:Bn)(ps:List (List UInt8))(s:Bs)(k:Int)(args:Exs)(of_:List Tru)(at_:Int):Tru:=λleft=>
 if k=1 then(.inr true,left)
 else if k=2 then(.inr false,left)
 else if k=9 then
  match (of_.getD 0 λl=>(.inr false,l)) left with
  |(.inr b,l)=>(.inr (!b),l)
  |(.inl h,l)=>(.inl h,l)
 else if k=10 then
  match (of_.getD 0 λl=>(.inr false,l)) left with
  |(.inr true,l)=>(of_.getD 1 λl=>(.inr false,l)) l
  |r=>r
 else if k=11 then
  match (of_.getD 0 λl=>(.inr false,l)) left with
  |(.inr false,l)=>(of_.getD 1 λl=>(.inr false,l)) l
  |r=>r
 else match left with
  |0=>(.inl ⟨2,0,at_⟩,0)
  |left+1=>match valL n ps s args with
   | .inl h=>(.inl h,left)
   | .inr l=>(.inr (cmpB k (l.getD 0 0) (l.getD 1 0)),left)
def truC (n:Bn)(ps:List (List UInt8))(s:Bs):Cds->List Tru
 | .nil => []
 | .cons k args of_ at_ r=>truF n ps s k args (truC n ps s of_) at_::truC n ps s r
def truH (n:Bn)(ps:List (List UInt8))(s:Bs)(cond:Cds):Tru:=(truC n ps s cond).getD 0 λl=>(.inr false,l)
def za4 (n:Bn)(ps:List (List UInt8))(s:Bs)(k:Int)(nm:ByteArray)(args:Exs)(at_:Int):Option Ho×Bs:=
 match s.left with
 |0=>(some ⟨2,0,at_⟩,s)
 |left+1=>
  let t:Bs:={s with left:=left}
  if k=2 then
   match valL n ps t args with
   | .inl h=>(some h,t)
   | .inr l=>(none,setB n ps t nm (l.getD 0 0))
  else if k=3 then
   match valL n ps t args with
   | .inl h=>(some h,t)
   | .inr l=>
    if 0<=l.getD 0 0/\l.getD 0 0 < (t.ls.getD (arrI n nm) []).length then
     (none,{t with ls:=t.ls.set (arrI n nm) ((t.ls.getD (arrI n nm) []).set (l.getD 0 0).toNat (l.getD 1 0))})
    else(some ⟨5,5,at_⟩,t)
  else if k=4 then
   match t.script with
   | []=>(some ⟨3,0,at_⟩,t)
   |x::q=>(none,setB n ps {t with script:=q} nm x)
  else(none,t)
def zaU (n:Bn)(ps:List (List UInt8))(at_:Int):List Va->Exs->Bs->(Ho ⊕ List Int)×Bs
 | [],_,s=>(.inr [],s)
 |_::r,.cons k nm m a b q,s=>
  match s.left with
  |0=>(.inl ⟨2,0,at_⟩,s)
  |left+1=>
   match valL n ps {s with left:=left} (.cons k nm m a b .nil)with
   | .inl h=>(.inl h,{s with left:=left})
   | .inr l=>match zaU n ps at_ r q {s with left:=left}with
    |(.inl h,t)=>(.inl h,t)
    |(.inr xs,t)=>(.inr (l.getD 0 0::xs),t)
 |_::_,.nil,s=>(.inr [],s)
inductive Tsk where
 |all (ps:List (List UInt8)) (xs:Sts)
 |one (ps:List (List UInt8)) (k:Int) (nm:ByteArray) (args:Exs) (cond:Cds) (body els:Sts) (at_:Int)
inductive RunT (n:Bn):Tsk->Bs->Option Ho->Bs->Prop
 |nil {ps s}:RunT n (.all ps .nil) s none s
 |next {ps k nm args cond body els at_ r s s1 h s2}:RunT n (.one ps k nm args cond body els at_) s none s1->RunT n (.all ps r) s1 h s2->RunT n (.all ps (.cons k nm args cond body els at_ r)) s h s2
 |stop {ps k nm args cond body els at_ r s s1 h}:RunT n (.one ps k nm args cond body els at_) s (some h) s1->RunT n (.all ps (.cons k nm args cond body els at_ r)) s (some h) s1
 |plain {ps k nm args cond body els at_ s}:k<=4->RunT n (.one ps k nm args cond body els at_) s (za4 n ps s k nm args at_).1 (za4 n ps s k nm args at_).2
 |fault {ps k nm args cond body els at_ s h l}:5<=k->k<=7->truH n ps s cond s.left=(.inl h,l)->RunT n (.one ps k nm args cond body els at_) s (some h) {s with left:=l}
 |holds {ps k nm args cond body els at_ s l}:k=5\/k=6->truH n ps s cond s.left=(.inr true,l)->RunT n (.one ps k nm args cond body els at_) s none {s with left:=l}
 |fails {ps k nm args cond body els at_ s l}:k=5\/k=6->truH n ps s cond s.left=(.inr false,l)->RunT n (.one ps k nm args cond body els at_) s (some (if k=5 then⟨4,0,at_⟩else⟨5,1,at_⟩)) {s with left:=l}
 |yes {ps nm args cond body els at_ s l h t}:truH n ps s cond s.left=(.inr true,l)->RunT n (.all ps body) {s with left:=l} h t->RunT n (.one ps 7 nm args cond body els at_) s h t
 |no {ps nm args cond body els at_ s l h t}:truH n ps s cond s.left=(.inr false,l)->RunT n (.all ps els) {s with left:=l} h t->RunT n (.one ps 7 nm args cond body els at_) s h t
 |out {ps k nm args cond body els at_ s}:k=8\/k=9->s.left=0->RunT n (.one ps k nm args cond body els at_) s (some ⟨2,0,at_⟩) s
 |ask {ps nm args cond body els at_ s m h l}:s.left=m+1->truH n ps {s with left:=m} cond m=(.inl h,l)->RunT n (.one ps 8 nm args cond body els at_) s (some h) {s with left:=l}
 |done {ps nm args cond body els at_ s m l}:s.left=m+1->truH n ps {s with left:=m} cond m=(.inr false,l)->RunT n (.one ps 8 nm args cond body els at_) s none {s with left:=l}
 |leave {ps nm args cond body els at_ s m l h t}:s.left=m+1->truH n ps {s with left:=m} cond m=(.inr true,l)->RunT n (.all ps body) {s with left:=l} (some h) t->RunT n (.one ps 8 nm args cond body els at_) s (some h) t
 |again {ps nm args cond body els at_ s m l t h u}:s.left=m+1->truH n ps {s with left:=m} cond m=(.inr true,l)->RunT n (.all ps body) {s with left:=l} none t->RunT n (.one ps 8 nm args cond body els at_) t h u->RunT n (.one ps 8 nm args cond body els at_) s h u
 |give {ps nm args cond body els at_ s m p h t}:s.left=m+1->n.procs nm.data.toList=some p->zaU n ps at_ p.params args {s with left:=m}=(.inl h,t)->RunT n (.one ps 9 nm args cond body els at_) s (some h) t
 |call {ps nm args cond body els at_ s m p xs t h u}:s.left=m+1->n.procs nm.data.toList=some p->zaU n ps at_ p.params args {s with left:=m}=(.inr xs,t)->
   RunT n (.all (p.params.map (·.nm.data.toList)) p.body) {t with own:=xs} h u->RunT n (.one ps 9 nm args cond body els at_) s h {u with own:=t.own}
def zda (n:Bn):Sts->Prop
 | .nil =>True
 | .cons k nm args cond body els _ r=>(1<=k/\k<=9)/\(k=9->∃p,n.procs nm.data.toList=some p)/\zda n body/\zda n els/\zda n r
theorem zga {n:Bn}{ps:List (List UInt8)}{s:Bs}{k:Int}{args:Exs}{of_:List Tru}{at_:Int}(h:∀t∈of_,∀l,(t l).2 <=l)(l:Nat):(truF n ps s k args of_ at_ l).2 <=l:=by
 have hg:∀i l,((of_.getD i λl=>(.inr false,l)) l).2 <=l:=by
  intro i l;rw[List.getD_eq_getElem?_getD];cases e:of_[i]? with
  |none=>exact lrq _
  |some t=>exact h t (List.mem_of_getElem? e) l
 have h0:=hg 0 l;unfold truF;split
 ·exact lrq _
 split
 ·exact lrq _
 split
 ·split<;>rename_i e<;>rw[e]at h0<;>exact h0
 split
 ·split
  ·rename_i e;rw[e]at h0;exact leq9 (hg 1 _) h0
  ·exact h0
 split
 ·split
  ·rename_i e;rw[e]at h0;exact leq9 (hg 1 _) h0
  ·exact h0
 split
 ·exact lrq _
 ·split<;>simp
theorem zcN (n:Bn)(ps:List (List UInt8))(s:Bs):∀xs,∀t∈truC n ps s xs,∀l,(t l).2 <=l
 | .nil,t,h,_=>by simp[truC]at h
 | .cons k args of_ at_ r,t,h,l=>by
  simp only[truC,List.mem_cons]at h;rcases h with rfl|h
  ·exact zga (zcN n ps s of_) l
  ·exact zcN n ps s r t h l
theorem zd4 (n:Bn)(ps:List (List UInt8))(s:Bs)(xs:Cds)(l:Nat):(truH n ps s xs l).2 <=l:=by
 unfold truH;rw[List.getD_eq_getElem?_getD];cases e:(truC n ps s xs)[0]? with
 |none=>exact lrq _
 |some t=>exact zcN n ps s xs t (List.mem_of_getElem? e) l
theorem zbK {n:Bn}{ps:List (List UInt8)}{s:Bs}{xs:Cds}{l m:Nat}{r:Ho ⊕ Bool}(e:truH n ps s xs m=(r,l)):l<=m:=by
 have h:=zd4 n ps s xs m;rw[e]at h;exact h
theorem zd5 (n:Bn)(ps:List (List UInt8))(s:Bs)(nm:ByteArray)(x:Int):(setB n ps s nm x).left =s.left:=by
 unfold setB;split<;>rfl
theorem zgP (n:Bn)(ps:List (List UInt8))(s:Bs)(k:Int)(nm:ByteArray)(args:Exs)(at_:Int):(za4 n ps s k nm args at_).2.left <=s.left:=by
 unfold za4;split
 ·exact lrq _
 ·rename_i l e;dsimp only;rw[e]
  repeat' split
  all_goals first|exact Nat.le_succ _|(simp only[zd5];exact Nat.le_succ _)
theorem zbL (n:Bn)(ps:List (List UInt8))(at_:Int):∀(vs:List Va)(xs:Exs)(s:Bs),(zaU n ps at_ vs xs s).2.left <=s.left
 | [],_,s=>lrq _
 |_::r,.nil,s=>lrq _
 |_::r,.cons k nm m a b q,s=>by
  unfold zaU;split
  ·exact lrq _
  ·rename_i l e;have ih:=zbL n ps at_ r q {s with left:=l};rw[e];split
   ·exact Nat.le_succ _
   ·split<;>rename_i e2<;>rw[e2]at ih<;>exact leq9 ih (Nat.le_succ _)
theorem RunT.left_le {n:Bn}{tsk:Tsk}{s t:Bs}{h:Option Ho}(r:RunT n tsk s h t):t.left<=s.left:=by
 induction r with
 |nil=>exact lrq _
 |next _ _ h1 h2=>exact leq9 h2 h1
 |stop _ h1=>exact h1
 |plain _=>exact zgP ..
 |fault _ _ e=>exact zbK e
 |holds _ e=>exact zbK e
 |fails _ e=>exact zbK e
 |yes e _ h1=>exact leq9 h1 (zbK e)
 |no e _ h1=>exact leq9 h1 (zbK e)
 |out _ _=>exact lrq _
 | @ask ps nm args cond body els at_ s m h l e1 e=>have h0:=zbK e;show l<=s.left;omega
 | @done ps nm args cond body els at_ s m l e1 e=>have h0:=zbK e;show l<=s.left;omega
 | @leave ps nm args cond body els at_ s m l h t e1 e _ h1=>have h0:=zbK e;have h1:t.left<=l:=h1;omega
 | @again ps nm args cond body els at_ s m l t h u e1 e _ _ h1 h2=>have h0:=zbK e;have h1:t.left<=l:=h1;omega
 | @give ps nm args cond body els at_ s m p h t e1 _ e=>have h0:=zbL n ps at_ p.params args {s with left:=m};rw[e]at h0;have h0:t.left<=m:=h0;omega
 | @call ps nm args cond body els at_ s m p xs t h u e1 _ e _ h1=>have h0:=zbL n ps at_ p.params args {s with left:=m};rw[e]at h0;have h0:t.left<=m:=h0;have h1:u.left<=t.left:=h1;show u.left<=s.left;omega
theorem RunT.single {n:Bn}{ps:List (List UInt8)}{k:Int}{nm:ByteArray}{args:Exs}{cond:Cds}{body els:Sts}{at_:Int}{s t:Bs}{h:Option Ho}(r:RunT n (.all ps (.cons k nm args cond body els at_ .nil)) s h t):RunT n (.one ps k nm args cond body els at_) s h t:=by
 cases r with
 |next h1 h2=>cases h2;exact h1
 |stop h1=>exact h1
section
variable {n:Bn} (hp:∀x p,n.procs x=some p->zda n p.body) (m:Nat) (IH:∀s:Bs,s.left < m->∀ps xs,zda n xs->∃h t,RunT n (.all ps xs) s h t)
include hp IH
theorem znE (ps:List (List UInt8))(k:Int)(nm:ByteArray)(args:Exs)(cond:Cds)(body els:Sts)(at_:Int)(h1:1<=k/\k<=9)(h9:k=9->∃p,n.procs nm.data.toList=some p)(hg:zda n body/\zda n els)
  (hb:∀s:Bs,s.left<=m->∃h t,RunT n (.all ps body) s h t) (he:∀s:Bs,s.left<=m->∃h t,RunT n (.all ps els) s h t) (s:Bs) (hs:s.left<=m):∃h t,RunT n (.one ps k nm args cond body els at_) s h t:=by
 by_cases k4:k<=4
 ·exact⟨_,_,.plain k4⟩
 by_cases k7:k<=7
 ·have h0:=zd4 n ps s cond s.left;rcases e:truH n ps s cond s.left with⟨h|b,l⟩
  ·exact⟨_,_,.fault (by omega) k7 e⟩
  ·rw[e]at h0;have h0:l<=s.left:=h0;by_cases e7:k=7
   ·subst e7;cases b with
    |true=>
     obtain⟨h,t,r⟩:=hb {s with left:=l} (by show l<=m;omega);exact⟨_,_,.yes e r⟩
    |false=>
     obtain⟨h,t,r⟩:=he {s with left:=l} (by show l<=m;omega);exact⟨_,_,.no e r⟩
   ·cases b with
    |true=>exact⟨_,_,.holds (by omega) e⟩
    |false=>exact⟨_,_,.fails (by omega) e⟩
 ·cases hl:s.left with
  |zero=>exact⟨_,_,.out (by omega) hl⟩
  |succ q=>
   by_cases e8:k=8
   ·subst e8;have h0:=zd4 n ps {s with left:=q} cond q;rcases e:truH n ps {s with left:=q} cond q with⟨h|b,l⟩
    ·exact⟨_,_,.ask hl e⟩
    ·rw[e]at h0;have h0:l<=q:=h0;cases b with
     |false=>exact⟨_,_,.done hl e⟩
     |true=>
      obtain⟨h,t,r⟩:=hb {s with left:=l} (by show l<=m;omega);cases h with
      |some h=>exact⟨_,_,.leave hl e r⟩
      |none=>
       have ht:t.left<=l:=r.left_le;obtain⟨h2,t2,r2⟩:=IH t (by omega) ps (.cons 8 nm args cond body els at_ .nil) ⟨by omega,λe=>by omega,hg.1,hg.2,trivial⟩;exact⟨_,_,.again hl e r r2.single⟩
   ·have e9:k=9:=by omega
    subst e9;obtain⟨p,ep⟩:=h9 rfl;have h0:=zbL n ps at_ p.params args {s with left:=q};rcases e:zaU n ps at_ p.params args {s with left:=q}with⟨h|xs,t⟩
    ·exact⟨_,_,.give hl ep e⟩
    ·rw[e]at h0;have h0:t.left<=q:=h0;obtain⟨h2,t2,r2⟩:=IH {t with own:=xs} (by show t.left < m;omega) (p.params.map (·.nm.data.toList)) p.body (hp _ _ ep);exact⟨_,_,.call hl ep e r2⟩
theorem zfq (ps:List (List UInt8)):∀(xs:Sts),zda n xs->∀s:Bs,s.left<=m->∃h t,RunT n (.all ps xs) s h t
 | .nil,_,s,_=>⟨_,_,.nil⟩
 | .cons k nm args cond body els at_ r,⟨h1,h2,h3,h4,h5⟩,s,hs=>by
  obtain⟨h,t,r1⟩:=znE hp m IH ps k nm args cond body els at_ h1 h2 ⟨h3,h4⟩ (zfq ps body h3) (zfq ps els h4) s hs;cases h with
  |some h=>exact⟨_,_,.stop r1⟩
  |none=>
   obtain⟨h,t2,r2⟩:=zfq ps r h5 t (leq9 r1.left_le hs);exact⟨_,_,.next r1 r2⟩
end
theorem zmO {n:Bn}(hp:∀x p,n.procs x=some p->zda n p.body):∀(m:Nat)(s:Bs),s.left < m->∀ps xs,zda n xs->∃h t,RunT n (.all ps xs) s h t
 |0,_,h,_,_,_=>absurd h (by omega)
 |m+1,s,h,ps,xs,hx=>zfq hp m (zmO hp m) ps xs hx s (by omega)
theorem zbB (n:Bn)(ps:List (List UInt8))(s:Bs)(a:Nat):∀xs,valL n ps {s with left:=a} xs=valL n ps s xs
 | .nil =>rfl
 | .cons k nm m args at_ r=>by
  simp only[valL,zbB n ps s a args,zbB n ps s a r];rfl
theorem ziu {n:Bn}{ps:List (List UInt8)}{s:Bs}{k:Int}{nm:ByteArray}{m at_:Int}{l:List Int}{h:Ho}(e:zd3 n ps s k nm m at_ l= .inl h):h.kind=5:=by
 unfold zd3 at e
 repeat' split at e
 all_goals first|(injection e with e;subst e;rfl)|injection e
theorem zb2 {n:Bn}{ps:List (List UInt8)}{s:Bs}{h:Ho}:∀ {xs},valL n ps s xs= .inl h->h.kind=5
 | .nil,e=>by simp[valL]at e
 | .cons k nm m args at_ r,e=>by
  unfold valL at e;split at e
  ·rename_i e1;injection e with e;subst e;exact zb2 e1
  ·split at e
   ·rename_i e1;injection e with e;subst e;exact ziu e1
   ·split at e
    ·rename_i e1;injection e with e;subst e;exact zb2 e1
    ·injection e
def TruM (d:Nat)(t:Tru):Prop:=(∀l r l',t l=(r,l')->(∀h,r= .inl h->h.kind≠2)->t (l+d)=(r,l'+d))/\∀l h l',t l=(.inl h,l')->h.kind=2->l'=0
theorem znF (d:Nat):TruM d λl=>(.inr false,l):=⟨λl r l' e _=>by cases e;rfl,λl h l' e=>by cases e⟩
theorem zcg {d:Nat}{of_:List Tru}(h:∀t∈of_,TruM d t)(i:Nat):TruM d (of_.getD i λl=>(.inr false,l)):=by
 rw[List.getD_eq_getElem?_getD];cases e:of_[i]? with
 |none=>exact znF d
 |some t=>exact h t (List.mem_of_getElem? e)
theorem zcO {d:Nat}{c:Prop} [Decidable c] {f g:Tru}(hf:c->TruM d f)(hg:¬c->TruM d g):TruM d (λl=>if c then f l else g l):=by
 by_cases h:c
 ·simp only[if_pos h];exact hf h
 ·simp only[if_neg h];exact hg h
theorem zlP {d:Nat}{f:Tru}(hf:TruM d f):TruM d λl=>match f l with
  |(.inr b,l)=>(.inr (!b),l)
  |(.inl h,l)=>(.inl h,l):=by
 refine⟨λl r l' e hk=>?_,λl h l' e hk=>?_⟩
 ·rcases e1:f l with⟨h|b,q⟩
  ·simp only[e1]at e;obtain⟨rfl,rfl⟩:=Prod.mk.inj e;simp only[hf.1 l _ _ e1 (λx hx=>hk x hx)]
  ·simp only[e1]at e;obtain⟨rfl,rfl⟩:=Prod.mk.inj e;simp only[hf.1 l _ _ e1 (λx hx=>by cases hx)]
 ·rcases e1:f l with⟨x|b,q⟩
  ·simp only[e1]at e;obtain⟨e9,rfl⟩:=Prod.mk.inj e;cases e9;exact hf.2 _ _ _ e1 hk
  ·simp only[e1]at e;cases e
theorem zhy {d:Nat}{f g:Tru}(hf:TruM d f)(hg:TruM d g)(c:Bool):TruM d λl=>match f l with
  |(.inr b,l)=>if b=c then g l else(.inr b,l)
  |(.inl h,l)=>(.inl h,l):=by
 refine⟨λl r l' e hk=>?_,λl h l' e hk=>?_⟩
 ·rcases e1:f l with⟨h|b,q⟩
  ·simp only[e1]at e;obtain⟨rfl,rfl⟩:=Prod.mk.inj e;simp only[hf.1 l _ _ e1 (λx hx=>hk x hx)]
  ·simp only[e1]at e;simp only[hf.1 l _ _ e1 (λx hx=>by cases hx)];by_cases hb:b=c
   ·simp only[if_pos hb]at e ⊢;exact hg.1 _ _ _ e hk
   ·simp only[if_neg hb]at e ⊢;obtain⟨rfl,rfl⟩:=Prod.mk.inj e;rfl
 ·rcases e1:f l with⟨x|b,q⟩
  ·simp only[e1]at e;obtain⟨e9,rfl⟩:=Prod.mk.inj e;cases e9;exact hf.2 _ _ _ e1 hk
  ·simp only[e1]at e;by_cases hb:b=c
   ·simp only[if_pos hb]at e;exact hg.2 _ _ _ e hk
   ·simp only[if_neg hb]at e;cases e
theorem zou {d:Nat}{n:Bn}{ps:List (List UInt8)}{s:Bs}{k:Int}{args:Exs}{of_:List Tru}{at_:Int}(h:∀t∈of_,TruM d t):TruM d (truF n ps s k args of_ at_):=by
 unfold truF;refine zcO (λ_=>⟨λl r l' e _=>by cases e;rfl,λl h l' e=>by cases e⟩) λ_=>?_;refine zcO (λ_=>⟨λl r l' e _=>by cases e;rfl,λl h l' e=>by cases e⟩) λ_=>?_;refine zcO (λ_=>zlP (zcg h 0)) λ_=>?_;refine zcO (λ_=>?_) λ_=>?_
 ·have:=zhy (zcg h 0) (zcg h 1) true;refine cast (congrArg (TruM d) (funext λl=>?_)) this;rcases(of_.getD 0 λl=>(.inr false,l)) l with⟨x|(_|_),q⟩<;>rfl
 refine zcO (λ_=>?_) λ_=>?_
 ·have:=zhy (zcg h 0) (zcg h 1) false;refine cast (congrArg (TruM d) (funext λl=>?_)) this;rcases(of_.getD 0 λl=>(.inr false,l)) l with⟨x|(_|_),q⟩<;>rfl
 refine⟨λl r l' e hk=>?_,λl x l' e hk=>?_⟩
 ·cases l with
  |zero=>
   simp only at e;obtain⟨rfl,rfl⟩:=Prod.mk.inj e;exact absurd rfl (hk _ rfl)
  |succ q=>
   rw[show q+1+d=(q+d)+1 from by omega];simp only at e ⊢;rcases e1:valL n ps s args with x|y
   ·simp only[e1]at e ⊢;obtain⟨rfl,rfl⟩:=Prod.mk.inj e;rfl
   ·simp only[e1]at e ⊢;obtain⟨rfl,rfl⟩:=Prod.mk.inj e;rfl
 ·cases l with
  |zero=>
   simp only at e;exact((Prod.mk.inj e).2).symm
  |succ q=>
   simp only at e;rcases e1:valL n ps s args with y|y
   ·simp only[e1]at e;obtain⟨e9,rfl⟩:=Prod.mk.inj e;cases e9;have:=zb2 e1;omega
   ·simp only[e1]at e;cases e
theorem zjW (d:Nat)(n:Bn)(ps:List (List UInt8))(s:Bs):∀xs,∀t∈truC n ps s xs,TruM d t
 | .nil,t,h=>by simp[truC]at h
 | .cons k args of_ at_ r,t,h=>by
  simp only[truC,List.mem_cons]at h;rcases h with rfl|h
  ·exact zou (zjW d n ps s of_)
  ·exact zjW d n ps s r t h
theorem zb3 (d:Nat)(n:Bn)(ps:List (List UInt8))(s:Bs)(xs:Cds):TruM d (truH n ps s xs):=zcg (zjW d n ps s xs) 0
theorem zjX (n:Bn)(ps:List (List UInt8))(s:Bs)(a:Nat)(k:Int)(args:Exs)(of_:List Tru)(at_:Int):truF n ps {s with left:=a} k args of_ at_=truF n ps s k args of_ at_:=by
 funext l
 unfold truF;rw[zbB]
theorem zfr (n:Bn)(ps:List (List UInt8))(s:Bs)(a:Nat):∀xs,truC n ps {s with left:=a} xs=truC n ps s xs
 | .nil =>rfl
 | .cons k args of_ at_ r=>by simp only[truC,zjX,zfr n ps s a of_,zfr n ps s a r]
theorem za8 (n:Bn)(ps:List (List UInt8))(s:Bs)(a:Nat)(xs:Cds):truH n ps {s with left:=a} xs=truH n ps s xs:=by
 unfold truH;rw[zfr]
def Bs.up (s:Bs)(d:Nat):Bs:={s with left:=s.left+d}
theorem zjY (n:Bn)(ps:List (List UInt8))(s:Bs)(nm:ByteArray)(x:Int)(d:Nat):setB n ps (s.up d) nm x=(setB n ps s nm x).up d:=by
 unfold setB Bs.up;cases posI ps nm.data.toList<;>rfl
theorem zgQ {n:Bn}{ps:List (List UInt8)}{s:Bs}{k:Int}{nm:ByteArray}{args:Exs}{at_:Int}(d:Nat)(h:∀e,(za4 n ps s k nm args at_).1 =some e->e.kind≠2):
  za4 n ps (s.up d) k nm args at_=((za4 n ps s k nm args at_).1,(za4 n ps s k nm args at_).2.up d):=by
 rcases s with⟨vs,ls,script,left,own⟩;cases left with
 |zero=>exact absurd rfl (h ⟨2,0,at_⟩ rfl)
 |succ l=>
  unfold za4 at h ⊢;show(match (l+1+d:Nat)with|0=>_|left+1=>_)=_
  rw[show l+1+d=(l+d)+1 from by omega];simp only;have e1:(⟨vs,ls,script,l+d,own⟩:Bs)=Bs.up ⟨vs,ls,script,l,own⟩ d:=rfl;have e2:valL n ps (Bs.up ⟨vs,ls,script,l,own⟩ d) args=valL n ps ⟨vs,ls,script,l,own⟩ args:=zbB n ps ⟨vs,ls,script,l,own⟩ (l+d) args;by_cases k2:k=2
  ·simp only[if_pos k2,Bs.up]at h ⊢;have e3:valL n ps ⟨vs,ls,script,l+d,own⟩ args=valL n ps ⟨vs,ls,script,l,own⟩ args:=e2;rw[e3];split
   ·rfl
   ·rw[e1,zjY];rfl
  by_cases k3:k=3
  ·simp only[if_neg k2,if_pos k3,Bs.up]at h ⊢;have e3:valL n ps ⟨vs,ls,script,l+d,own⟩ args=valL n ps ⟨vs,ls,script,l,own⟩ args:=e2;rw[e3];rcases valL n ps ⟨vs,ls,script,l,own⟩ args with z|z
   ·rfl
   ·by_cases hi:0<=z.getD 0 0/\z.getD 0 0 < ((ls.getD (arrI n nm) []).length :Int)
    ·simp only[if_pos hi];exact if_pos hi
    ·simp only[if_neg hi];exact if_neg hi
  by_cases k4:k=4
  ·simp only[if_neg k2,if_neg k3,if_pos k4,Bs.up]at h ⊢;cases script with
   |nil=>rfl
   |cons x q=>
    simp only;have e4:setB n ps ⟨vs,ls,q,l+d,own⟩ nm x=(setB n ps ⟨vs,ls,q,l,own⟩ nm x).up d:=zjY n ps ⟨vs,ls,q,l,own⟩ nm x d;rw[e4];rfl
  ·simp only[if_neg k2,if_neg k3,if_neg k4];rfl
theorem ziv {n:Bn}{ps:List (List UInt8)}{s:Bs}{k:Int}{nm:ByteArray}{args:Exs}{at_:Int}{e:Ho}(h:(za4 n ps s k nm args at_).1 =some e)(hk:e.kind=2):(za4 n ps s k nm args at_).2.left =0:=by
 rcases s with⟨vs,ls,script,left,own⟩;cases left with
 |zero=>rfl
 |succ l=>
  exfalso
  unfold za4 at h;simp only at h
  repeat' split at h
  all_goals first
   |(cases h;done)
   |(rename_i e9;cases h;have:=zb2 e9;omega)
   |(cases h;simp at hk)
theorem zbM {n:Bn}{ps:List (List UInt8)}{at_:Int}(d:Nat):∀(vs:List Va)(xs:Exs)(s:Bs)(r:Ho ⊕ List Int)(t:Bs),zaU n ps at_ vs xs s=(r,t)->(∀h,r= .inl h->h.kind≠2)->zaU n ps at_ vs xs (s.up d)=(r,t.up d)
 | [],_,s,r,t,e,_=>by
  simp only[zaU]at e ⊢;obtain⟨rfl,rfl⟩:=Prod.mk.inj e;rfl
 |_::_,.nil,s,r,t,e,_=>by
  simp only[zaU]at e ⊢;obtain⟨rfl,rfl⟩:=Prod.mk.inj e;rfl
 |_::vs,.cons k nm m a b q,⟨v0,l0,s0,left,o0⟩,r,t,e,hk=>by
  unfold zaU at e ⊢;cases left with
  |zero=>
   simp only at e;obtain⟨rfl,rfl⟩:=Prod.mk.inj e;exact absurd rfl (hk _ rfl)
  |succ l=>
   show(match (l+1+d:Nat)with|0=>_|left+1=>_)=_
   rw[show l+1+d=(l+d)+1 from by omega];simp only[Bs.up]at e ⊢;have e3:valL n ps ⟨v0,l0,s0,l+d,o0⟩ (.cons k nm m a b .nil)=valL n ps ⟨v0,l0,s0,l,o0⟩ (.cons k nm m a b .nil):=zbB n ps ⟨v0,l0,s0,l,o0⟩ (l+d) _;rw[e3];rcases e4:valL n ps ⟨v0,l0,s0,l,o0⟩ (.cons k nm m a b .nil)with x|y
   ·simp only[e4]at e ⊢;obtain⟨rfl,rfl⟩:=Prod.mk.inj e;rfl
   ·simp only[e4]at e ⊢;rcases e5:zaU n ps at_ vs q ⟨v0,l0,s0,l,o0⟩with⟨z|zs,u⟩
    ·simp only[e5]at e;obtain⟨rfl,rfl⟩:=Prod.mk.inj e;have e6:zaU n ps at_ vs q ⟨v0,l0,s0,l+d,o0⟩=(.inl z,u.up d):=zbM d vs q _ _ _ e5 (λh hh=>hk h hh);rw[e6];rfl
    ·simp only[e5]at e;obtain⟨rfl,rfl⟩:=Prod.mk.inj e;have e6:zaU n ps at_ vs q ⟨v0,l0,s0,l+d,o0⟩=(.inr zs,u.up d):=zbM d vs q _ _ _ e5 (λh hh=>by cases hh);rw[e6];rfl
theorem zeJ {n:Bn}{ps:List (List UInt8)}{at_:Int}:∀(vs:List Va)(xs:Exs)(s:Bs)(h:Ho)(t:Bs),zaU n ps at_ vs xs s=(.inl h,t)->h.kind=2->t.left=0
 | [],_,s,h,t,e,_=>by simp only[zaU]at e;cases (Prod.mk.inj e).1
 |_::_,.nil,s,h,t,e,_=>by simp only[zaU]at e;cases (Prod.mk.inj e).1
 |_::vs,.cons k nm m a b q,⟨v0,l0,s0,left,o0⟩,h,t,e,hk=>by
  unfold zaU at e;cases left with
  |zero=>
   simp only at e;obtain⟨_,rfl⟩:=Prod.mk.inj e;rfl
  |succ l=>
   simp only at e;rcases e4:valL n ps ⟨v0,l0,s0,l,o0⟩ (.cons k nm m a b .nil)with x|y
   ·simp only[e4]at e;obtain⟨e9,rfl⟩:=Prod.mk.inj e;cases e9;have:=zb2 e4;omega
   ·simp only[e4]at e;rcases e5:zaU n ps at_ vs q ⟨v0,l0,s0,l,o0⟩with⟨z|zs,u⟩
    ·simp only[e5]at e;obtain⟨e9,rfl⟩:=Prod.mk.inj e;cases e9;exact zeJ vs q _ _ _ e5 hk
    ·simp only[e5]at e;cases (Prod.mk.inj e).1
theorem RunT.more {n:Bn}{tsk:Tsk}{s t:Bs}{h:Option Ho}(r:RunT n tsk s h t)(d:Nat):(∀e,h=some e->e.kind≠2)->RunT n tsk (s.up d) h (t.up d):=by
 have hn:∀e:Ho,none=some e->e.kind≠2:=λe he=>by cases he
 induction r with
 |nil=>exact λ_=> .nil
 |next _ _ h1 h2=>exact λhk=> .next (h1 hn) (h2 hk)
 |stop _ h1=>exact λhk=> .stop (h1 hk)
 | @plain ps k nm args cond body els at_ s k4=>
  intro hk;have h:=RunT.plain (n:=n) (ps:=ps) (nm:=nm) (args:=args) (cond:=cond) (body:=body) (els:=els) (at_:=at_) (s:=s.up d) k4;rw[zgQ d hk]at h;exact h
 | @fault ps k nm args cond body els at_ s h l a b e=>exact λhk=> .fault a b (by rw[show truH n ps (s.up d) cond=_ from za8 n ps s _ cond];exact(zb3 d n ps s cond).1 _ _ _ e (λx hx=>by cases hx;exact hk _ rfl))
 | @holds ps k nm args cond body els at_ s l a e=>exact λhk=> .holds (s:=s.up d) a (by rw[show truH n ps (s.up d) cond=_ from za8 n ps s _ cond];exact(zb3 d n ps s cond).1 _ _ _ e (λx hx=>by cases hx))
 | @fails ps k nm args cond body els at_ s l a e=>exact λhk=> .fails (s:=s.up d) a (by rw[show truH n ps (s.up d) cond=_ from za8 n ps s _ cond];exact(zb3 d n ps s cond).1 _ _ _ e (λx hx=>by cases hx))
 | @yes ps nm args cond body els at_ s l h t e _ h1=>exact λhk=> .yes (s:=s.up d) (by rw[show truH n ps (s.up d) cond=_ from za8 n ps s _ cond];exact(zb3 d n ps s cond).1 _ _ _ e (λx hx=>by cases hx)) (h1 hk)
 | @no ps nm args cond body els at_ s l h t e _ h1=>exact λhk=> .no (s:=s.up d) (by rw[show truH n ps (s.up d) cond=_ from za8 n ps s _ cond];exact(zb3 d n ps s cond).1 _ _ _ e (λx hx=>by cases hx)) (h1 hk)
 | @out ps k nm args cond body els at_ s _ _=>exact λhk=>absurd rfl (hk ⟨2,0,at_⟩ rfl)
 | @ask ps nm args cond body els at_ s m h l e1 e=>exact λhk=> .ask (s:=s.up d) (m:=m+d) (by show s.left+d=_;omega) (by rw[show truH n ps {s.up d with left:=m+d} cond=truH n ps {s with left:=m} cond from(za8 n ps s _ cond).trans (za8 n ps s _ cond).symm];exact(zb3 d n ps _ cond).1 _ _ _ e (λx hx=>by cases hx;exact hk _ rfl))
 | @done ps nm args cond body els at_ s m l e1 e=>exact λhk=> .done (s:=s.up d) (m:=m+d) (by show s.left+d=_;omega) (by rw[show truH n ps {s.up d with left:=m+d} cond=truH n ps {s with left:=m} cond from(za8 n ps s _ cond).trans (za8 n ps s _ cond).symm];exact(zb3 d n ps _ cond).1 _ _ _ e (λx hx=>by cases hx))
 | @leave ps nm args cond body els at_ s m l h t e1 e _ h1=>exact λhk=> .leave (s:=s.up d) (m:=m+d) (by show s.left+d=_;omega) (by rw[show truH n ps {s.up d with left:=m+d} cond=truH n ps {s with left:=m} cond from(za8 n ps s _ cond).trans (za8 n ps s _ cond).symm];exact(zb3 d n ps _ cond).1 _ _ _ e (λx hx=>by cases hx)) (h1 hk)
 | @again ps nm args cond body els at_ s m l t h u e1 e _ _ h1 h2=>exact λhk=> .again (s:=s.up d) (m:=m+d) (by show s.left+d=_;omega) (by rw[show truH n ps {s.up d with left:=m+d} cond=truH n ps {s with left:=m} cond from(za8 n ps s _ cond).trans (za8 n ps s _ cond).symm];exact(zb3 d n ps _ cond).1 _ _ _ e (λx hx=>by cases hx)) (h1 hn) (h2 hk)
 | @give ps nm args cond body els at_ s m p h t e1 ep e=>exact λhk=> .give (s:=s.up d) (m:=m+d) (by show s.left+d=_;omega) ep (zbM d p.params args {s with left:=m} _ _ e (λx hx=>by cases hx;exact hk _ rfl))
 | @call ps nm args cond body els at_ s m p xs t h u e1 ep e _ h1=>exact λhk=> .call (s:=s.up d) (m:=m+d) (t:=t.up d) (by show s.left+d=_;omega) ep (zbM d p.params args {s with left:=m} _ _ e (λx hx=>by cases hx)) (h1 hk)
theorem RunT.dry {n:Bn}{tsk:Tsk}{s t:Bs}{h:Option Ho}(r:RunT n tsk s h t):∀e,h=some e->e.kind=2->t.left=0:=by
 induction r with
 |nil=>exact λe he=>by cases he
 |next _ _ h1 h2=>exact h2
 |stop _ h1=>exact h1
 |plain _=>exact λe he hk=>ziv he hk
 |fault _ _ e=>exact λx hx hk=>by cases hx;exact(zb3 0 _ _ _ _).2 _ _ _ e hk
 |holds _ e=>exact λe he=>by cases he
 | @fails ps k nm args cond body els at_ s l a e=>exact λx hx hk=>by injection hx with hx;subst hx;split at hk<;>simp at hk
 |yes e _ h1=>exact h1
 |no e _ h1=>exact h1
 |out _ e=>exact λ_ _ _=>e
 |ask e1 e=>exact λx hx hk=>by cases hx;exact(zb3 0 _ _ _ _).2 _ _ _ e hk
 |done e1 e=>exact λe he=>by cases he
 |leave e1 e _ h1=>exact h1
 |again e1 e _ _ h1 h2=>exact h2
 |give e1 _ e=>exact λx hx hk=>by cases hx;exact zeJ _ _ _ _ _ e hk
 |call e1 _ e _ h1=>exact h1
