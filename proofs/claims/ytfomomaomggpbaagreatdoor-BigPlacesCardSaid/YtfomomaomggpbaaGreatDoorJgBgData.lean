/- Plain. -/
import Derived.Test.YtfomomaomggpbaaGreatDoorJgOpC
set_option linter.all false
namespace Go.Proofs.YtfomomaomggpbaaGreatDoor
open Go.RowKit
structure Bs where
 vs:List Int
 ls:List (List Int)
 script:List Int
 left:Nat
 own:List Int
structure Ho where
 kind:Int
 wrong:Int
 at_:Int
structure Bn where
 vars:List (List UInt8)
 arrs:List (List UInt8)
 procs:List UInt8->Option Prc
def posI:List (List UInt8)->List UInt8->Option Nat
 | [],_=>none
 |x::r,t=>if x=t then some 0 else(posI r t).map (· +1)
def getV (n:Bn)(ps:List (List UInt8))(s:Bs)(nm:ByteArray):Int:=
 match posI ps nm.data.toList with
 |some k=>s.own.getD k 0
 |none=>s.vs.getD ((posI n.vars nm.data.toList).getD 0) 0
def setB (n:Bn)(ps:List (List UInt8))(s:Bs)(nm:ByteArray)(x:Int):Bs:=
 match posI ps nm.data.toList with
 |some k=>{s with own:=s.own.set k x}
 |none=>{s with vs:=s.vs.set ((posI n.vars nm.data.toList).getD 0) x}
def arrI (n:Bn)(nm:ByteArray):Nat:=(posI n.arrs nm.data.toList).getD 0
def zdt (n:Bn)(ps:List (List UInt8))(s:Bs)(k:Int)(nm:ByteArray)(m:Int)(at_:Int)(l:List Int):Ho ⊕ Int:=
 if k=1 then .inr m
 else if k=2 then .inr (getV n ps s nm)
 else if k=3 then
  if 0<=l.getD 0 0/\l.getD 0 0 < (s.ls.getD (arrI n nm) []).length then .inr ((s.ls.getD (arrI n nm) []).getD (l.getD 0 0).toNat 0)else .inl ⟨5,5,at_⟩
 else if opW k (l.getD 0 0) (l.getD 1 0)=0 then .inr (opR k (l.getD 0 0) (l.getD 1 0))else .inl ⟨5,opW k (l.getD 0 0) (l.getD 1 0),at_⟩
def valL (n:Bn)(ps:List (List UInt8))(s:Bs):Exs->Ho ⊕ List Int
 | .nil => .inr []
 | .cons k nm m args at_ r=>
  match valL n ps s args with
  | .inl h=> .inl h
  | .inr l=>match zdt n ps s k nm m at_ l with
   | .inl h=> .inl h
   | .inr x=>match valL n ps s r with
    | .inl h=> .inl h
    | .inr q=> .inr (x::q)
abbrev Tru:=Nat->(Ho ⊕ Bool)×Nat
def truF (n:Bn)(ps:List (List UInt8))(s:Bs)(k:Int)(args:Exs)(of_:List Tru)(at_:Int):Tru:=λleft=>
 if k=1 then(.inr true,left)
 else if k=2 then(.inr false,left)
 else if k=9 then
  match (of_.getD 0 λl=>(.inr false,l)) left with
  |(.inr b,l)=>(.inr (!b),l)
  |(.inl h,l)=>(.inl h,l)
 else if k=10 then
  match (of_.getD 0 λl=>(.inr false,l)) left with
  |(.inr true,l)=>(of_.getD 1 λl=>(.inr false,l)) l
  |r=>r
 else if k=11 then
  match (of_.getD 0 λl=>(.inr false,l)) left with
  |(.inr false,l)=>(of_.getD 1 λl=>(.inr false,l)) l
  |r=>r
 else match left with
  |0=>(.inl ⟨2,0,at_⟩,0)
  |left+1=>match valL n ps s args with
   | .inl h=>(.inl h,left)
   | .inr l=>(.inr (cmpB k (l.getD 0 0) (l.getD 1 0)),left)
def truC (n:Bn)(ps:List (List UInt8))(s:Bs):Cds->List Tru
 | .nil => []
 | .cons k args of_ at_ r=>truF n ps s k args (truC n ps s of_) at_::truC n ps s r
def truH (n:Bn)(ps:List (List UInt8))(s:Bs)(cond:Cds):Tru:=(truC n ps s cond).getD 0 λl=>(.inr false,l)
def zbj (n:Bn)(ps:List (List UInt8))(s:Bs)(k:Int)(nm:ByteArray)(args:Exs)(at_:Int):Option Ho×Bs:=
 match s.left with
 |0=>(some ⟨2,0,at_⟩,s)
 |left+1=>
  let t:Bs:={s with left:=left}
  if k=2 then
   match valL n ps t args with
   | .inl h=>(some h,t)
   | .inr l=>(none,setB n ps t nm (l.getD 0 0))
  else if k=3 then
   match valL n ps t args with
   | .inl h=>(some h,t)
   | .inr l=>
    if 0<=l.getD 0 0/\l.getD 0 0 < (t.ls.getD (arrI n nm) []).length then
     (none,{t with ls:=t.ls.set (arrI n nm) ((t.ls.getD (arrI n nm) []).set (l.getD 0 0).toNat (l.getD 1 0))})
    else(some ⟨5,5,at_⟩,t)
  else if k=4 then
   match t.script with
   | []=>(some ⟨3,0,at_⟩,t)
   |x::q=>(none,setB n ps {t with script:=q} nm x)
  else(none,t)
def zbu (n:Bn)(ps:List (List UInt8))(at_:Int):List Va->Exs->Bs->(Ho ⊕ List Int)×Bs
 | [],_,s=>(.inr [],s)
 |_::r,.cons k nm m a b q,s=>
  match s.left with
  |0=>(.inl ⟨2,0,at_⟩,s)
  |left+1=>
   match valL n ps {s with left:=left} (.cons k nm m a b .nil)with
   | .inl h=>(.inl h,{s with left:=left})
   | .inr l=>match zbu n ps at_ r q {s with left:=left}with
    |(.inl h,t)=>(.inl h,t)
    |(.inr xs,t)=>(.inr (l.getD 0 0::xs),t)
 |_::_,.nil,s=>(.inr [],s)
inductive Tsk where
 |all (ps:List (List UInt8)) (xs:Sts)
 |one (ps:List (List UInt8)) (k:Int) (nm:ByteArray) (args:Exs) (cond:Cds) (body els:Sts) (at_:Int)
inductive RunT (n:Bn):Tsk->Bs->Option Ho->Bs->Prop
 |nil {ps s}:RunT n (.all ps .nil) s none s
 |next {ps k nm args cond body els at_ r s s1 h s2}:RunT n (.one ps k nm args cond body els at_) s none s1->RunT n (.all ps r) s1 h s2->RunT n (.all ps (.cons k nm args cond body els at_ r)) s h s2
 |stop {ps k nm args cond body els at_ r s s1 h}:RunT n (.one ps k nm args cond body els at_) s (some h) s1->RunT n (.all ps (.cons k nm args cond body els at_ r)) s (some h) s1
 |plain {ps k nm args cond body els at_ s}:k<=4->RunT n (.one ps k nm args cond body els at_) s (zbj n ps s k nm args at_).1 (zbj n ps s k nm args at_).2
 |fault {ps k nm args cond body els at_ s h l}:5<=k->k<=7->truH n ps s cond s.left=(.inl h,l)->RunT n (.one ps k nm args cond body els at_) s (some h) {s with left:=l}
 |holds {ps k nm args cond body els at_ s l}:k=5\/k=6->truH n ps s cond s.left=(.inr true,l)->RunT n (.one ps k nm args cond body els at_) s none {s with left:=l}
 |fails {ps k nm args cond body els at_ s l}:k=5\/k=6->truH n ps s cond s.left=(.inr false,l)->RunT n (.one ps k nm args cond body els at_) s (some (if k=5 then⟨4,0,at_⟩else⟨5,1,at_⟩)) {s with left:=l}
 |yes {ps nm args cond body els at_ s l h t}:truH n ps s cond s.left=(.inr true,l)->RunT n (.all ps body) {s with left:=l} h t->RunT n (.one ps 7 nm args cond body els at_) s h t
 |no {ps nm args cond body els at_ s l h t}:truH n ps s cond s.left=(.inr false,l)->RunT n (.all ps els) {s with left:=l} h t->RunT n (.one ps 7 nm args cond body els at_) s h t
 |out {ps k nm args cond body els at_ s}:k=8\/k=9->s.left=0->RunT n (.one ps k nm args cond body els at_) s (some ⟨2,0,at_⟩) s
 |ask {ps nm args cond body els at_ s m h l}:s.left=m+1->truH n ps {s with left:=m} cond m=(.inl h,l)->RunT n (.one ps 8 nm args cond body els at_) s (some h) {s with left:=l}
 |done {ps nm args cond body els at_ s m l}:s.left=m+1->truH n ps {s with left:=m} cond m=(.inr false,l)->RunT n (.one ps 8 nm args cond body els at_) s none {s with left:=l}
 |leave {ps nm args cond body els at_ s m l h t}:s.left=m+1->truH n ps {s with left:=m} cond m=(.inr true,l)->RunT n (.all ps body) {s with left:=l} (some h) t->RunT n (.one ps 8 nm args cond body els at_) s (some h) t
 |again {ps nm args cond body els at_ s m l t h u}:s.left=m+1->truH n ps {s with left:=m} cond m=(.inr true,l)->RunT n (.all ps body) {s with left:=l} none t->RunT n (.one ps 8 nm args cond body els at_) t h u->RunT n (.one ps 8 nm args cond body els at_) s h u
 |give {ps nm args cond body els at_ s m p h t}:s.left=m+1->n.procs nm.data.toList=some p->zbu n ps at_ p.params args {s with left:=m}=(.inl h,t)->RunT n (.one ps 9 nm args cond body els at_) s (some h) t
 |call {ps nm args cond body els at_ s m p xs t h u}:s.left=m+1->n.procs nm.data.toList=some p->zbu n ps at_ p.params args {s with left:=m}=(.inr xs,t)->
   RunT n (.all (p.params.map (·.nm.data.toList)) p.body) {t with own:=xs} h u->RunT n (.one ps 9 nm args cond body els at_) s h {u with own:=t.own}
def zdu (n:Bn):Sts->Prop
 | .nil =>True
 | .cons k nm args cond body els _ r=>(1<=k/\k<=9)/\(k=9->∃p,n.procs nm.data.toList=some p)/\zdu n body/\zdu n els/\zdu n r
theorem zgU {n:Bn}{ps:List (List UInt8)}{s:Bs}{k:Int}{args:Exs}{of_:List Tru}{at_:Int}(h:∀t∈of_,∀l,(t l).2 <=l)(l:Nat):(truF n ps s k args of_ at_ l).2 <=l:=by
 have hg:∀i l,((of_.getD i λl=>(.inr false,l)) l).2 <=l:=by
  intro i l;rw[List.getD_eq_getElem?_getD];cases e:of_[i]? with
  |none=>exact aL _
  |some t=>exact h t (List.mem_of_getElem? e) l
 have h0:=hg 0 l;unfold truF;split
 ·exact aL _
 split
 ·exact aL _
 split
 ·split<;>rename_i e<;>rw[e]at h0<;>exact h0
 split
 ·split
  ·rename_i e;rw[e]at h0;exact aK (hg 1 _) h0
  ·exact h0
 split
 ·split
  ·rename_i e;rw[e]at h0;exact aK (hg 1 _) h0
  ·exact h0
 split
 ·exact aL _
 ·split<;>simp
theorem zcX (n:Bn)(ps:List (List UInt8))(s:Bs):∀xs,∀t∈truC n ps s xs,∀l,(t l).2 <=l
 | .nil,t,h,_=>by simp[truC]at h
 | .cons k args of_ at_ r,t,h,l=>by
  simp only[truC,List.mem_cons]at h;rcases h with rfl|h
  ·exact zgU (zcX n ps s of_) l
  ·exact zcX n ps s r t h l
theorem zeu (n:Bn)(ps:List (List UInt8))(s:Bs)(xs:Cds)(l:Nat):(truH n ps s xs l).2 <=l:=by
 unfold truH;rw[List.getD_eq_getElem?_getD];cases e:(truC n ps s xs)[0]? with
 |none=>exact aL _
 |some t=>exact zcX n ps s xs t (List.mem_of_getElem? e) l
theorem zbS {n:Bn}{ps:List (List UInt8)}{s:Bs}{xs:Cds}{l m:Nat}{r:Ho ⊕ Bool}(e:truH n ps s xs m=(r,l)):l<=m:=by
 have h:=zeu n ps s xs m;rw[e]at h;exact h
theorem zev (n:Bn)(ps:List (List UInt8))(s:Bs)(nm:ByteArray)(x:Int):(setB n ps s nm x).left =s.left:=by
 unfold setB;split<;>rfl
theorem zhy (n:Bn)(ps:List (List UInt8))(s:Bs)(k:Int)(nm:ByteArray)(args:Exs)(at_:Int):(zbj n ps s k nm args at_).2.left <=s.left:=by
 unfold zbj;split
 ·exact aL _
 ·rename_i l e;dsimp only;rw[e]
  repeat' split
  all_goals first|exact Nat.le_succ _|(simp only[zev];exact Nat.le_succ _)
theorem zbT (n:Bn)(ps:List (List UInt8))(at_:Int):∀(vs:List Va)(xs:Exs)(s:Bs),(zbu n ps at_ vs xs s).2.left <=s.left
 | [],_,s=>aL _
 |_::r,.nil,s=>aL _
 |_::r,.cons k nm m a b q,s=>by
  unfold zbu;split
  ·exact aL _
  ·rename_i l e;have ih:=zbT n ps at_ r q {s with left:=l};rw[e];split
   ·exact Nat.le_succ _
   ·split<;>rename_i e2<;>rw[e2]at ih<;>exact aK ih (Nat.le_succ _)
theorem RunT.left_le {n:Bn}{tsk:Tsk}{s t:Bs}{h:Option Ho}(r:RunT n tsk s h t):t.left<=s.left:=by
 induction r with
 |nil=>exact aL _
 |next _ _ h1 h2=>exact aK h2 h1
 |stop _ h1=>exact h1
 |plain _=>exact zhy ..
 |fault _ _ e=>exact zbS e
 |holds _ e=>exact zbS e
 |fails _ e=>exact zbS e
 |yes e _ h1=>exact aK h1 (zbS e)
 |no e _ h1=>exact aK h1 (zbS e)
 |out _ _=>exact aL _
 | @ask ps nm args cond body els at_ s m h l e1 e=>have h0:=zbS e;show l<=s.left;omega
 | @done ps nm args cond body els at_ s m l e1 e=>have h0:=zbS e;show l<=s.left;omega
 | @leave ps nm args cond body els at_ s m l h t e1 e _ h1=>have h0:=zbS e;have h1:t.left<=l:=h1;omega
 | @again ps nm args cond body els at_ s m l t h u e1 e _ _ h1 h2=>have h0:=zbS e;have h1:t.left<=l:=h1;omega
 | @give ps nm args cond body els at_ s m p h t e1 _ e=>have h0:=zbT n ps at_ p.params args {s with left:=m};rw[e]at h0;have h0:t.left<=m:=h0;omega
 | @call ps nm args cond body els at_ s m p xs t h u e1 _ e _ h1=>have h0:=zbT n ps at_ p.params args {s with left:=m};rw[e]at h0;have h0:t.left<=m:=h0;have h1:u.left<=t.left:=h1;show u.left<=s.left;omega
theorem RunT.single {n:Bn}{ps:List (List UInt8)}{k:Int}{nm:ByteArray}{args:Exs}{cond:Cds}{body els:Sts}{at_:Int}{s t:Bs}{h:Option Ho}(r:RunT n (.all ps (.cons k nm args cond body els at_ .nil)) s h t):RunT n (.one ps k nm args cond body els at_) s h t:=by
 cases r with
 |next h1 h2=>cases h2;exact h1
 |stop h1=>exact h1
section
variable {n:Bn} (hp:∀x p,n.procs x=some p->zdu n p.body) (m:Nat) (IH:∀s:Bs,s.left < m->∀ps xs,zdu n xs->∃h t,RunT n (.all ps xs) s h t)
include hp IH
theorem zo6 (ps:List (List UInt8))(k:Int)(nm:ByteArray)(args:Exs)(cond:Cds)(body els:Sts)(at_:Int)(h1:1<=k/\k<=9)(h9:k=9->∃p,n.procs nm.data.toList=some p)(hg:zdu n body/\zdu n els)
  (hb:∀s:Bs,s.left<=m->∃h t,RunT n (.all ps body) s h t) (he:∀s:Bs,s.left<=m->∃h t,RunT n (.all ps els) s h t) (s:Bs) (hs:s.left<=m):∃h t,RunT n (.one ps k nm args cond body els at_) s h t:=by
 by_cases k4:k<=4
 ·exact⟨_,_,.plain k4⟩
 by_cases k7:k<=7
 ·have h0:=zeu n ps s cond s.left;rcases e:truH n ps s cond s.left with⟨h|b,l⟩
  ·exact⟨_,_,.fault (by omega) k7 e⟩
  ·rw[e]at h0;have h0:l<=s.left:=h0;by_cases e7:k=7
   ·subst e7;cases b with
    |true=>
     obtain⟨h,t,r⟩:=hb {s with left:=l} (by show l<=m;omega);exact⟨_,_,.yes e r⟩
    |false=>
     obtain⟨h,t,r⟩:=he {s with left:=l} (by show l<=m;omega);exact⟨_,_,.no e r⟩
   ·cases b with
    |true=>exact⟨_,_,.holds (by omega) e⟩
    |false=>exact⟨_,_,.fails (by omega) e⟩
 ·cases hl:s.left with
  |zero=>exact⟨_,_,.out (by omega) hl⟩
  |succ q=>
   by_cases e8:k=8
   ·subst e8;have h0:=zeu n ps {s with left:=q} cond q;rcases e:truH n ps {s with left:=q} cond q with⟨h|b,l⟩
    ·exact⟨_,_,.ask hl e⟩
    ·rw[e]at h0;have h0:l<=q:=h0;cases b with
     |false=>exact⟨_,_,.done hl e⟩
     |true=>
      obtain⟨h,t,r⟩:=hb {s with left:=l} (by show l<=m;omega);cases h with
      |some h=>exact⟨_,_,.leave hl e r⟩
      |none=>
       have ht:t.left<=l:=r.left_le;obtain⟨h2,t2,r2⟩:=IH t (by omega) ps (.cons 8 nm args cond body els at_ .nil) ⟨by omega,λe=>by omega,hg.1,hg.2,trivial⟩;exact⟨_,_,.again hl e r r2.single⟩
   ·have e9:k=9:=by omega
    subst e9;obtain⟨p,ep⟩:=h9 rfl;have h0:=zbT n ps at_ p.params args {s with left:=q};rcases e:zbu n ps at_ p.params args {s with left:=q}with⟨h|xs,t⟩
    ·exact⟨_,_,.give hl ep e⟩
    ·rw[e]at h0;have h0:t.left<=q:=h0;obtain⟨h2,t2,r2⟩:=IH {t with own:=xs} (by show t.left < m;omega) (p.params.map (·.nm.data.toList)) p.body (hp _ _ ep);exact⟨_,_,.call hl ep e r2⟩
theorem zfX (ps:List (List UInt8)):∀(xs:Sts),zdu n xs->∀s:Bs,s.left<=m->∃h t,RunT n (.all ps xs) s h t
 | .nil,_,s,_=>⟨_,_,.nil⟩
 | .cons k nm args cond body els at_ r,⟨h1,h2,h3,h4,h5⟩,s,hs=>by
  obtain⟨h,t,r1⟩:=zo6 hp m IH ps k nm args cond body els at_ h1 h2 ⟨h3,h4⟩ (zfX ps body h3) (zfX ps els h4) s hs;cases h with
  |some h=>exact⟨_,_,.stop r1⟩
  |none=>
   obtain⟨h,t2,r2⟩:=zfX ps r h5 t (aK r1.left_le hs);exact⟨_,_,.next r1 r2⟩
end
theorem zoa {n:Bn}(hp:∀x p,n.procs x=some p->zdu n p.body):∀(m:Nat)(s:Bs),s.left < m->∀ps xs,zdu n xs->∃h t,RunT n (.all ps xs) s h t
 |0,_,h,_,_,_=>absurd h (by omega)
 |m+1,s,h,ps,xs,hx=>zfX hp m (zoa hp m) ps xs hx s (by omega)
theorem zcY (n:Bn)(ps:List (List UInt8))(s:Bs)(a:Nat):∀xs,valL n ps {s with left:=a} xs=valL n ps s xs
 | .nil =>rfl
 | .cons k nm m args at_ r=>by
  simp only[valL,zcY n ps s a args,zcY n ps s a r];rfl
theorem zlc (n:Bn)(ps:List (List UInt8))(s:Bs)(a:Nat)(k:Int)(args:Exs)(of_:List Tru)(at_:Int):truF n ps {s with left:=a} k args of_ at_=truF n ps s k args of_ at_:=by
 funext l
 unfold truF;rw[zcY]
theorem zhz (n:Bn)(ps:List (List UInt8))(s:Bs)(a:Nat):∀xs,truC n ps {s with left:=a} xs=truC n ps s xs
 | .nil =>rfl
 | .cons k args of_ at_ r=>by simp only[truC,zlc,zhz n ps s a of_,zhz n ps s a r]
