/- Plain laws of names: when nothing is wrong with a tree's names. -/
import Derived.Test.YtmopichdofgndaaGreatDoorJgRtX
set_option linter.all false
namespace Go.Proofs.YtmopichdofgndaaGreatDoor
open Go.RowKit Go.Shelf Go.Maps
theorem zgz (st p:Int×Int):askC st true p=st:=rfl
theorem zcP {st:Int×Int}{is:Bool}{p:Int×Int}(hp:p.2≠0)(h:(askC st is p).2 =0):is=true/\askC st is p=st:=by
 cases is with
 |true=>exact⟨rfl,rfl⟩
 |false=>
  exfalso
  have h:(zcw st p).2 =0:=h;unfold zcw at h;by_cases e:st.2=0
  ·rw[if_pos e]at h;exact hp h
  ·rw[if_neg e]at h;exact e h
def isK (kn:Kn)(t:List UInt8)(k:Int):Prop:=∃v,kn t=some (k,v)
theorem zdB {kn:Kn}{st:Int×Int}{t:List UInt8}{k at_:Int}(h:(useC kn st t k at_).2 =0):isK kn t k/\useC kn st t k at_=st:=by
 unfold useC at h ⊢;obtain⟨h1,h2⟩:=zcP (by simp) h;rw[h2]at h;obtain⟨h3,h4⟩:=zcP (by simp) h;refine⟨?_,h2.trans h4⟩;simp only[Bool.and_eq_true]at h3;obtain⟨⟨a,b⟩,hv⟩:=Option.isSome_iff_exists.1 h3.1;rw[hv]at h1;have h1:a=k:=by simpa using h1
 exact⟨b,by rw[hv,h1]⟩
theorem zdC {kn:Kn}{st:Int×Int}{t:List UInt8}{k at_:Int}(h:isK kn t k)(hk:k≠4):useC kn st t k at_=st:=by
 obtain⟨v,hv⟩:=h;unfold useC;rw[hv];simp[askC,hk]
def okUX (kn:Kn):Exs->Prop
 | .nil =>True
 | .cons k nm _ args _ r=>(k=2->isK kn nm.data.toList 1)/\(k=3->isK kn nm.data.toList 2)/\okUX kn args/\okUX kn r
theorem zcz {kn:Kn}:∀(xs:Exs)(st:Int×Int),okUX kn xs->zax kn xs st=st
 | .nil,st,_=>rfl
 | .cons k nm n args at_ r,st,h=>by
  obtain⟨h1,h2,h3,h4⟩:=h;unfold zax;have e:(if k=2 then useC kn st nm.data.toList 1 at_ else if k=3 then useC kn st nm.data.toList 2 at_ else st)=st:=by
   by_cases e2:k=2
   ·rw[if_pos e2,zdC (h1 e2) (by decide)]
   ·rw[if_neg e2];by_cases e3:k=3
    ·rw[if_pos e3,zdC (h2 e3) (by decide)]
    ·rw[if_neg e3]
  rw[e,zcz args st h3,zcz r st h4]
theorem zcA {kn:Kn}:∀(xs:Exs)(st:Int×Int),(zax kn xs st).2 =0->okUX kn xs/\zax kn xs st=st
 | .nil,st,_=>⟨trivial,rfl⟩
 | .cons k nm n args at_ r,st,h=>by
  unfold zax at h ⊢;obtain⟨h4,e4⟩:=zcA r _ h;rw[e4]at h ⊢;obtain⟨h3,e3⟩:=zcA args _ h;rw[e3]at h ⊢;by_cases e2:k=2
  ·subst e2;rw[if_pos rfl]at h ⊢;obtain⟨h1,e1⟩:=zdB h;exact⟨⟨λ_=>h1,λe=>absurd e (by decide),h3,h4⟩,e1⟩
  ·rw[if_neg e2]at h ⊢;by_cases e3:k=3
   ·subst e3;rw[if_pos rfl]at h ⊢;obtain⟨h1,e1⟩:=zdB h;exact⟨⟨λe=>absurd e (by decide),λ_=>h1,h3,h4⟩,e1⟩
   ·rw[if_neg e3];exact⟨⟨λe=>absurd e e2,λe=>absurd e e3,h3,h4⟩,rfl⟩
def okUC (kn:Kn):Cds->Prop
 | .nil =>True
 | .cons _ args of_ _ r=>okUX kn args/\okUC kn of_/\okUC kn r
theorem zdD {kn:Kn}:∀(xs:Cds)(st:Int×Int),okUC kn xs->zaK kn xs st=st
 | .nil,st,_=>rfl
 | .cons k args of_ at_ r,st,h=>by
  obtain⟨h1,h2,h3⟩:=h;unfold zaK;rw[zcz args st h1,zdD of_ st h2,zdD r st h3]
theorem zdE {kn:Kn}:∀(xs:Cds)(st:Int×Int),(zaK kn xs st).2 =0->okUC kn xs/\zaK kn xs st=st
 | .nil,st,_=>⟨trivial,rfl⟩
 | .cons k args of_ at_ r,st,h=>by
  unfold zaK at h ⊢;obtain⟨h3,e3⟩:=zdE r _ h;rw[e3]at h ⊢;obtain⟨h2,e2⟩:=zdE of_ _ h;rw[e2]at h ⊢;obtain⟨h1,e1⟩:=zcA args _ h;exact⟨⟨h1,h2,h3⟩,e1⟩
def okUH (kn:Kn)(k:Int)(t:List UInt8)(na:Int):Prop:=(k=2\/k=4->isK kn t 1)/\(k=3->isK kn t 2)/\(k=9->kn t=some (3,na))
theorem zkW {kn:Kn}{k:Int}{t:List UInt8}{na at_:Int}{st:Int×Int}(h:okUH kn k t na):zcN kn k t na at_ st=st:=by
 obtain⟨h1,h2,h3⟩:=h;unfold zcN;by_cases e1:k=2\/k=4
 ·rw[if_pos e1,zdC (h1 e1) (by decide)]
 ·rw[if_neg e1];by_cases e2:k=3
  ·rw[if_pos e2,zdC (h2 e2) (by decide)]
  ·rw[if_neg e2];by_cases e3:k=9
   ·rw[if_pos e3,zdC ⟨_,h3 e3⟩ (by decide),h3 e3];simp[askC]
   ·rw[if_neg e3]
theorem zkX {kn:Kn}{k:Int}{t:List UInt8}{na at_:Int}{st:Int×Int}(h:(zcN kn k t na at_ st).2 =0):okUH kn k t na/\zcN kn k t na at_ st=st:=by
 unfold zcN at h ⊢;by_cases e1:k=2\/k=4
 ·rw[if_pos e1]at h ⊢;obtain⟨h1,h2⟩:=zdB h;exact⟨⟨λ_=>h1,λe=>by omega,λe=>by omega⟩,h2⟩
 ·rw[if_neg e1]at h ⊢;by_cases e2:k=3
  ·rw[if_pos e2]at h ⊢;obtain⟨h1,h2⟩:=zdB h;exact⟨⟨λe=>absurd e e1,λ_=>h1,λe=>by omega⟩,h2⟩
  ·rw[if_neg e2]at h ⊢;by_cases e3:k=9
   ·rw[if_pos e3]at h ⊢;obtain⟨h1,h2⟩:=zcP (by simp) h;rw[h2]at h ⊢;obtain⟨⟨v,hv⟩,h4⟩:=zdB h;rw[hv]at h1;have h1:v=na:=by simpa using h1
    exact⟨⟨λe=>absurd e e1,λe=>absurd e e2,λ_=>by rw[hv,h1]⟩,h4⟩
   ·rw[if_neg e3];exact⟨⟨λe=>absurd e e1,λe=>absurd e e2,λe=>absurd e e3⟩,rfl⟩
def okUS (kn:Kn):Sts->Prop
 | .nil =>True
 | .cons k nm args cond body els _ r=>okUH kn k nm.data.toList (args.len:Int)/\okUX kn args/\okUC kn cond/\okUS kn body/\okUS kn els/\okUS kn r
theorem zcB {kn:Kn}:∀(xs:Sts)(st:Int×Int),okUS kn xs->zan kn xs st=st
 | .nil,st,_=>rfl
 | .cons k nm args cond body els at_ r,st,h=>by
  obtain⟨h0,h1,h2,h3,h4,h5⟩:=h;unfold zan;rw[zkW h0,zcz args st h1,zdD cond st h2,zcB body st h3,zcB els st h4,zcB r st h5]
theorem zbY {kn:Kn}:∀(xs:Sts)(st:Int×Int),(zan kn xs st).2 =0->okUS kn xs/\zan kn xs st=st
 | .nil,st,_=>⟨trivial,rfl⟩
 | .cons k nm args cond body els at_ r,st,h=>by
  unfold zan at h ⊢;obtain⟨h5,e5⟩:=zbY r _ h;rw[e5]at h ⊢;obtain⟨h4,e4⟩:=zbY els _ h;rw[e4]at h ⊢;obtain⟨h3,e3⟩:=zbY body _ h;rw[e3]at h ⊢;obtain⟨h2,e2⟩:=zdE cond _ h;rw[e2]at h ⊢;obtain⟨h1,e1⟩:=zcA args _ h;rw[e1]at h ⊢;obtain⟨h0,e0⟩:=zkX h;exact⟨⟨h0,h1,h2,h3,h4,h5⟩,e0⟩
def za0 (kn:Kn):List (List UInt8)->Prop
 | []=>True
 |t::r=>kn t=none/\t∉r/\za0 kn r
theorem freshL_iff {kn:Kn}:∀ {l:List (List UInt8)},za0 kn l↔(∀t∈l,kn t=none)/\l.Nodup
 | []=>by simp[za0]
 |t::r=>by
  unfold za0;rw[freshL_iff (l:=r),List.nodup_cons];simp only[List.mem_cons,forall_eq_or_imp];constructor
  ·rintro⟨a,b,c,d⟩;exact⟨⟨a,c⟩,b,d⟩
  ·rintro⟨⟨a,c⟩,b,d⟩;exact⟨a,b,c,d⟩
def putL (v:Int×Int)(l:List (List UInt8))(kn:Kn):Kn:=λy=>if y∈l then some v else kn y
theorem zeZ (v:Int×Int)(kn:Kn):putL v [] kn=kn:=by funext y;simp[putL]
theorem zdF (v:Int×Int)(t:List UInt8)(r:List (List UInt8))(kn:Kn):putL v r (kn.put t v)=putL v (t::r) kn:=by
 funext y
 unfold putL Kn.put;by_cases h1:y∈r
 ·simp[h1]
 ·by_cases h2:y=t
  ·simp[h2]
  ·simp[h1,h2]
theorem zb5 {s:Cks}{t:List UInt8}{at_:Int}{v:Int×Int}(h:s.1 t=none):zbM s t at_ v=(s.1.put t v,s.2):=by
 unfold zbM zkS zcx;rw[h];simp[askC]
theorem ze0 {s:Cks}{t:List UInt8}{at_:Int}{v:Int×Int}(h:(zbM s t at_ v).2.2 =0):s.1 t=none/\zbM s t at_ v=(s.1.put t v,s.2):=by
 have h:(zcx s.1 s.2 t at_).2 =0:=h;unfold zcx at h;have h1:=(zcP (by simp) h).1;have h2:s.1 t=none:=by
  cases e:s.1 t with
  |none=>rfl
  |some x=>rw[e]at h1;simp at h1
 exact⟨h2,zb5 h2⟩
abbrev nmV (xs:List Va):List (List UInt8):=xs.map λx=>x.nm.data.toList
abbrev nmA (xs:List Arr):List (List UInt8):=xs.map λx=>x.nm.data.toList
abbrev nmP (xs:List Prc):List (List UInt8):=xs.map λx=>x.nm.data.toList
theorem zdG {kn:Kn}{t:List UInt8}{v:Int×Int}{l:List (List UInt8)}(h:za0 (kn.put t v) l):t∉l/\za0 kn l:=by
 rw[freshL_iff]at h ⊢;have h1:t∉l:=λhm=>by have:=h.1 t hm;simp[Kn.put]at this
 refine⟨h1,λx hx=>?_,h.2⟩;have:=h.1 x hx;unfold Kn.put at this;rw[if_neg (λe:x=t=>h1 (e▸hx))]at this;exact this
theorem zcQ {kn:Kn}{t:List UInt8}{v:Int×Int}{l:List (List UInt8)}(h1:t∉l)(h:za0 kn l):za0 (kn.put t v) l:=by
 rw[freshL_iff]at h ⊢;refine⟨λx hx=>?_,h.2⟩;unfold Kn.put;rw[if_neg (λe:x=t=>h1 (e▸hx))];exact h.1 x hx
theorem zbF {v:Int×Int}:∀(xs:List Va)(s:Cks),za0 s.1 (nmV xs)->zaF v xs s=(putL v (nmV xs) s.1,s.2)
 | [],s,_=>by simp[zaF,zeZ]
 |x::r,s,h=>by
  obtain⟨h1,h2,h3⟩:=h;unfold zaF;rw[zb5 h1,zbF r _ (zcQ h2 h3),zdF];rfl
theorem zdH {v:Int×Int}:∀(xs:List Va)(s:Cks),(zaF v xs s).2.2 =0->za0 s.1 (nmV xs)
 | [],s,_=>trivial
 |x::r,s,h=>by
  unfold zaF at h;have h3:=zdH r _ h;rw[zbF r _ h3]at h;obtain⟨h1,e1⟩:=ze0 h;rw[e1]at h3;have h4:=zdG h3;exact⟨h1,h4.1,h4.2⟩
def zg7 (xs:List Arr):Prop:=∀x∈xs,1<=x.size/\x.size<=16
theorem zb6:∀(xs:List Arr)(s:Cks),za0 s.1 (nmA xs)->zg7 xs->za1 xs s=(putL (2,0) (nmA xs) s.1,s.2)
 | [],s,_,_=>by simp[za1,zeZ]
 |x::r,s,h,hz=>by
  obtain⟨h1,h2,h3⟩:=h;have hx:=hz x (by simp);unfold za1 zcy;rw[zb5 h1];have e:(decide ((1:Int)<=x.size)&&decide (x.size<=(16:Int)))=true:=by simpa using hx
  rw[e,zgz,zb6 r _ (zcQ h2 h3) (λy hy=>hz y (by simp[hy])),zdF];rfl
theorem zes:∀(xs:List Arr)(s:Cks),(za1 xs s).2.2 =0->za0 s.1 (nmA xs)/\zg7 xs
 | [],s,_=>⟨trivial,λx hx=>by simp at hx⟩
 |x::r,s,h=>by
  unfold za1 at h;obtain⟨h3,hz⟩:=zes r _ h;rw[zb6 r _ h3 hz]at h;unfold zcy at h h3;simp only at h h3;obtain⟨hq,e0⟩:=zcP (by simp) h;rw[e0]at h;obtain⟨h1,e1⟩:=ze0 h;rw[e1]at h3;have h4:=zdG h3;have hq:1<=x.size/\x.size<=16:=by simpa using hq
  exact⟨⟨h1,h4.1,h4.2⟩,λy hy=>by
   rcases List.mem_cons.1 hy with rfl|hy
   ·exact hq
   ·exact hz y hy⟩
theorem zb7:∀(xs:List Prc)(s:Cks),za0 s.1 (nmP xs)->za2 xs s=(putL (4,0) (nmP xs) s.1,s.2)
 | [],s,_=>by simp[za2,zeZ]
 |x::r,s,h=>by
  obtain⟨h1,h2,h3⟩:=h;unfold za2;rw[zb5 h1,zb7 r _ (zcQ h2 h3),zdF];rfl
theorem zet:∀(xs:List Prc)(s:Cks),(za2 xs s).2.2 =0->za0 s.1 (nmP xs)
 | [],s,_=>trivial
 |x::r,s,h=>by
  unfold za2 at h;have h3:=zet r _ h;rw[zb7 r _ h3]at h;obtain⟨h1,e1⟩:=ze0 h;rw[e1]at h3;have h4:=zdG h3;exact⟨h1,h4.1,h4.2⟩
theorem zg8:∀(xs:List Va)(kn:Kn)(y:List UInt8),zc3 xs kn y=if y∈nmV xs then none else kn y
 | [],kn,y=>by simp[zc3]
 |x::r,kn,y=>by
  unfold zc3;rw[zg8 r];unfold Kn.del nmV;by_cases h1:y∈nmV r
  ·unfold nmV at h1;simp only[List.map_cons,List.mem_cons,h1,or_true,if_true]
  ·unfold nmV at h1;by_cases h2:y=x.nm.data.toList
   ·simp[h2]
   ·simp only[List.map_cons,List.mem_cons,h1,h2,or_false,if_false]
theorem zjn {xs:List Va}{kn:Kn}{v:Int×Int}(h:za0 kn (nmV xs)):zc3 xs (putL v (nmV xs) kn)=kn:=by
 funext y
 rw[zg8];unfold putL;by_cases e:y∈nmV xs
 ·rw[if_pos e,(freshL_iff.1 h).1 y e]
 ·rw[if_neg e,if_neg e]
def okP (x:Prc)(kn:Kn):Prop:=x.params.length<=4/\za0 kn (nmV x.params)/\okUS (putL (1,0) (nmV x.params) kn) x.body
theorem ze1 {x:Prc}{s:Cks}(h:okP x s.1)(he:s.2.2=0):zbt x.nm.data.toList x.params x.body x.at_ s=(s.1.put x.nm.data.toList (3,x.params.length),s.2):=by
 obtain⟨h1,h2,h3⟩:=h;unfold zbt;have e:decide ((x.params.length:Int)<=4)=true:=by simp;omega
 rw[e,zgz,zbF _ _ h2];simp only;rw[if_pos he,zcB _ _ h3,zjn h2]
theorem zg9 {x:Prc}{s:Cks}(h:(zbt x.nm.data.toList x.params x.body x.at_ s).2.2 =0):okP x s.1:=by
 unfold zbt at h;simp only at h;by_cases e:(zaF (1,0) x.params (s.1,askC s.2 (decide ((x.params.length:Int)<=4)) (x.at_,4))).2.2 =0
 ·rw[if_pos e]at h;have h2:=zdH _ _ e;rw[zbF _ _ h2]at e h;simp only at e h;have h1:=(zcP (by simp) e).1;have h3:=(zbY _ _ h).1;exact⟨by simp at h1;omega,h2,h3⟩
 ·rw[if_neg e]at h;exact absurd h e
def zgA:List Prc->Kn->Prop
 | [],_=>True
 |x::r,kn=>okP x kn/\zgA r (kn.put x.nm.data.toList (3,x.params.length))
def zkY:List Prc->Kn->Kn
 | [],kn=>kn
 |x::r,kn=>zkY r (kn.put x.nm.data.toList (3,x.params.length))
theorem zfO:∀(xs:List Prc)(s:Cks),zgA xs s.1->s.2.2=0->zap xs s=((zkY xs s.1,s.2),false)
 | [],s,_,_=>rfl
 |x::r,s,h,he=>by
  unfold zap;rw[ze1 h.1 he,if_pos he,zfO r (s.1.put x.nm.data.toList (3,x.params.length),s.2) h.2 he];rfl
theorem zfP:∀(xs:List Prc)(s:Cks),(zap xs s).1.2.2 =0->s.2.2=0->zgA xs s.1
 | [],s,_,_=>trivial
 |x::r,s,h,he=>by
  unfold zap at h;by_cases e:(zbt x.nm.data.toList x.params x.body x.at_ s).2.2 =0
  ·have h1:=zg9 e;rw[ze1 h1 he]at h;rw[if_pos he]at h;exact⟨h1,zfP r _ h he⟩
  ·rw[if_neg e]at h;exact absurd h e
theorem zeu:∀(xs:List Prc)(s:Cks),(zap xs s).2 =true->(zap xs s).1.2.2 ≠0
 | [],s,h=>by simp[zap]at h
 |x::r,s,h=>by
  unfold zap at h ⊢;by_cases e:(zbt x.nm.data.toList x.params x.body x.at_ s).2.2 =0
  ·rw[if_pos e]at h ⊢;exact zeu r _ h
  ·rw[if_neg e];exact e
theorem zgB {st p:Int×Int}(h:st.2≠0):zcw st p=st:=by unfold zcw;rw[if_neg h]
theorem zaG {st p:Int×Int}{is:Bool}(h:st.2≠0):askC st is p=st:=by cases is<;>simp[askC,zgB h]
theorem zdI {nm:List UInt8}{ps:List Va}{body:Sts}{at_:Int}{s:Cks}(h:s.2.2≠0):(zbt nm ps body at_ s).2.2 ≠0:=by
 have hd:∀(xs:List Va)(s:Cks),s.2.2≠0->(zaF (1,0) xs s).2.2 ≠0:=by
  intro xs
  induction xs with
  |nil=>exact λs h=>h
  |cons x r ih=>
   intro s h;unfold zaF;refine ih _ ?_;show(zcx s.1 s.2 _ _).2 ≠0
   unfold zcx;rw[zaG h];exact h
 unfold zbt;simp only;have h2:=hd ps (s.1,askC s.2 (decide ((ps.length:Int)<=4)) (at_,4)) (by rw[zaG h];exact h);rw[if_neg h2];exact h2
def knT (t:Tre):Kn:=putL (4,0) (nmP t.procs) (putL (2,0) (nmA t.arrays) (putL (1,0) (nmV t.vars) λ_=>none))
structure OkT (t:Tre):Prop where
 tree:okTr t=true
 few:fewT t=true
 vars:za0 (λ_=>none) (nmV t.vars)
 arrays:za0 (putL (1,0) (nmV t.vars) λ_=>none) (nmA t.arrays)
 sizes:zg7 t.arrays
 procs:za0 (putL (2,0) (nmA t.arrays) (putL (1,0) (nmV t.vars) λ_=>none)) (nmP t.procs)
 each:zgA t.procs (knT t)
 main:okUS (zkY t.procs (knT t)) t.main
theorem zkZ {t:Tre}(h1:za0 (λ_=>none) (nmV t.vars))(h2:za0 (putL (1,0) (nmV t.vars) λ_=>none) (nmA t.arrays))(h3:zg7 t.arrays)(h4:za0 (putL (2,0) (nmA t.arrays) (putL (1,0) (nmV t.vars) λ_=>none)) (nmP t.procs)):
  zbc t=(knT t,(0,0)):=by
 unfold zbc;rw[zbF _ _ h1,zb6 _ _ h2 h3,zb7 _ _ h4];rfl
theorem zc9 {t:Tre}(h:(zbE t).2 =0):OkT t:=by
 unfold zbE at h;by_cases h1:okTr t=true
 rotate_left
 ·rw[if_neg h1]at h;exact absurd h (by decide)
 rw[if_pos h1]at h;by_cases h2:fewT t=true
 rotate_left
 ·rw[if_neg h2]at h;exact absurd h (by decide)
 rw[if_pos h2]at h;have h3:(zap t.procs (zbc t)).2 =false:=by
  cases e:(zap t.procs (zbc t)).2 with
  |false=>rfl
  |true=>
   rw[e,if_pos rfl]at h;exact absurd h (zeu _ _ e)
 rw[h3]at h;simp only[Bool.false_eq_true,if_false]at h;obtain⟨h4,e4⟩:=zbY _ _ h;rw[e4]at h;have h5:(zbc t).2.2 =0:=by
  by_cases e:(zbc t).2.2 =0
  ·exact e
  exfalso
  cases hp:t.procs with
  |nil=>rw[hp]at h;exact e h
  |cons x r=>
   rw[hp]at h3;unfold zap at h3;rw[if_neg (zdI e)]at h3;exact absurd h3 (by simp)
 have hd:=h5;unfold zbc at hd;have q3:=zet _ _ hd;rw[zb7 _ _ q3]at hd;obtain⟨q2,q4⟩:=zes _ _ hd;rw[zb6 _ _ q2 q4]at hd q3;have q1:=zdH _ _ hd;rw[zbF _ _ q1]at q2 q3;have zP:=zkZ q1 q2 q4 q3;rw[zP]at h h4;have h6:=zfP _ _ h rfl;rw[zfO _ _ h6 rfl]at h4;exact⟨h1,h2,q1,q2,q4,q3,h6,h4⟩
theorem zcg (a b:ByteArray):(a.toList=b.toList)↔(a.data.toList=b.data.toList):=by
 simp only[ByteArray.toList_eq]<;>rfl
theorem fewT_iff {t:Tre}:fewT t=true↔t.vars.length<=12/\t.arrays.length<=4/\t.procs.length<=8:=by
 unfold fewT;simp only[Bool.and_eq_true,decide_eq_true_eq];omega
def Sts.app:Sts->Sts->Sts
 | .nil,ys=>ys
 | .cons k nm args cond body els at_ r,ys=> .cons k nm args cond body els at_ (Sts.app r ys)
abbrev Nms:=List UInt8->Option ByteArray
def ofN (n:Nms)(nm:ByteArray):ByteArray:=(n nm.data.toList).getD nm
def zar (n:Nms):Exs->Exs
 | .nil => .nil
 | .cons k nm m args at_ r=> .cons k (if k=2 then ofN n nm else nm) m (zar n args) at_ (zar n r)
def zaJ (n:Nms):Cds->Cds
 | .nil => .nil
 | .cons k args of_ at_ r=> .cons k (zar n args) (zaJ n of_) at_ (zaJ n r)
theorem zaC (n:Nms):∀xs,(zar n xs).len =xs.len
 | .nil =>rfl
 | .cons _ _ _ _ _ r=>by simp only[zar,Exs.len,zaC n r]
theorem zaO (n:Nms):∀xs,(zaJ n xs).len =xs.len
 | .nil =>rfl
 | .cons _ _ _ _ r=>by simp only[zaJ,Cds.len,zaO n r]
structure Ist where
 calls:Nat
 vars:List Va
 many:Nat
def zaT (s:Ist):Bool:=decide (256 < s.many) || decide (32 < s.vars.length)
def dotB:ByteArray:=⟨#[46]⟩
def parN (p:ByteArray)(c:Nat)(v:ByteArray):ByteArray:=p++dotB++⟨(Lib.itoa c).toArray⟩++dotB++v
def zby (p:ByteArray)(c:Nat)(n:Nms)(at_:Int):List Va->Exs->Sts
 |v::vs,.cons k nm m a b r=> .cons 2 (parN p c v.nm) (zar n (.cons k nm m a b .nil)) .nil .nil .nil at_ (zby p c n at_ vs r)
 |_,_=> .nil
def ownN (p:ByteArray)(c:Nat):List Va->Nms->Nms
 | [],o=>o
 |v::vs,o=>ownN p c vs (λy=>if y=v.nm.data.toList then some (parN p c v.nm)else o y)
def inlS (call:ByteArray->Exs->Nms->Int->Ist->Sts×Ist):Sts->Nms->Ist->Sts×Ist
 | .nil,_,s=>(.nil,s)
 | .cons k nm args cond body els at_ r,n,s=>
  if zaT s then(.nil,s)
  else if k=9 then(Sts.app (call nm args n at_ s).1 (inlS call r n (call nm args n at_ s).2).1,(inlS call r n (call nm args n at_ s).2).2)
  else
   (.cons k (if k=3 then nm else ofN n nm) (zar n args) (zaJ n cond) (inlS call body n ⟨s.calls,s.vars,s.many+1⟩).1 (inlS call els n (inlS call body n ⟨s.calls,s.vars,s.many+1⟩).2).1 at_
    (inlS call r n (inlS call els n (inlS call body n ⟨s.calls,s.vars,s.many+1⟩).2).2).1,(inlS call r n (inlS call els n (inlS call body n ⟨s.calls,s.vars,s.many+1⟩).2).2).2)
def zcR (procs:List UInt8->Option Prc)(stm:Sts->Nms->Ist->Sts×Ist)(nm:ByteArray)(args:Exs)(n:Nms)(at_:Int)(s:Ist):Sts×Ist:=
 match procs nm.data.toList with
 |none=>(.nil,s)
 |some x=>
  let h:Sts:= .cons 1 ⟨#[]⟩ .nil .nil .nil .nil at_ (zby x.nm (s.calls+1) n at_ x.params args)
  let q:=stm x.body (ownN x.nm (s.calls+1) x.params λ_=>none) ⟨s.calls+1,s.vars++x.params.map (λv=>⟨parN x.nm (s.calls+1) v.nm,v.at_⟩),s.many+(x.params.length+1)⟩
  (Sts.app h q.1,q.2)
def inlF (procs:List UInt8->Option Prc):Nat->Sts->Nms->Ist->Sts×Ist
 |0=>inlS λ_ _ _ _ s=>(.nil,s)
 |f+1=>inlS (zcR procs (inlF procs f))
def zaj:List Prc->List UInt8->Option Prc
 | [],_=>none
 |x::r,y=>match zaj r y with
  |some z=>some z
  |none=>if y=x.nm.data.toList then some x else none
def inlQ (t:Tre):Sts×Ist:=inlF (zaj t.procs) t.procs.length t.main (λ_=>none) ⟨0,t.vars,0⟩
def zgC:Tre:=⟨[], [], [],.nil⟩
def inlT (t:Tre):Tre×Int:=
 if(zbE t).2 =0 then(if zaT (inlQ t).2 then(zgC,9)else(⟨(inlQ t).2.vars,t.arrays, [],(inlQ t).1⟩,0))else(zgC,(zbE t).2)
def LvB (procs:List UInt8->Option Prc)(low:Sts->Prop):Sts->Prop
 | .nil =>True
 | .cons k nm args _ body els _ r=>(k=9->∃x,procs nm.data.toList=some x/\x.params.length=args.len/\low x.body)/\LvB procs low body/\LvB procs low els/\LvB procs low r
def Lv (procs:List UInt8->Option Prc):Nat->Sts->Prop
 |0=>LvB procs λ_=>False
 |f+1=>LvB procs (Lv procs f)
theorem LvB.mono {procs:List UInt8->Option Prc}{a b:Sts->Prop}(h:∀x,a x->b x):∀ {xs:Sts},LvB procs a xs->LvB procs b xs
 | .nil,_=>trivial
 | .cons k nm args _ body els _ r,⟨h0,h1,h2,h3⟩=>⟨λe=>by
   obtain⟨x,g1,g2,g3⟩:=h0 e;exact⟨x,g1,g2,h _ g3⟩,LvB.mono h h1,LvB.mono h h2,LvB.mono h h3⟩
theorem Lv.up {procs:List UInt8->Option Prc}:∀ {f:Nat} {xs:Sts},Lv procs f xs->Lv procs (f+1) xs
 |0,_,h=>LvB.mono (λ_ h=>h.elim) h
 |f+1,_,h=>LvB.mono (λ_ h=>Lv.up h) h
theorem Lv.mono {procs:List UInt8->Option Prc}{f g:Nat}(h:f<=g){xs:Sts}(hx:Lv procs f xs):Lv procs g xs:=by
 induction h with
 |refl=>exact hx
 |step _ ih=>exact ih.up
def KnLow (procs:List UInt8->Option Prc)(low:Sts->Prop)(kn:Kn):Prop:=∀y na,kn y=some (3,na)->∃x,procs y=some x/\(x.params.length:Int)=na/\low x.body
theorem zha {procs:List UInt8->Option Prc}{low:Sts->Prop}{kn:Kn}(hk:KnLow procs low kn):∀xs,okUS kn xs->LvB procs low xs
 | .nil,_=>trivial
 | .cons k nm args _ body els _ r,⟨h0,_,_,h3,h4,h5⟩=>⟨λe=>by
   obtain⟨x,g1,g2,g3⟩:=hk _ _ (h0.2.2 e);exact⟨x,g1,by omega,g3⟩,zha hk body h3,zha hk els h4,zha hk r h5⟩
theorem znf {procs:List UInt8->Option Prc}{f:Nat}{kn:Kn}(hk:KnLow procs (λxs=>∃g,g < f/\Lv procs g xs) kn){xs:Sts}(h:okUS kn xs):Lv procs f xs:=by
 have h1:=zha hk xs h;cases f with
 |zero=>exact LvB.mono (λ_ ⟨g,hg,_⟩=>by omega) h1
 |succ f=>exact LvB.mono (λ_ ⟨g,hg,hx⟩=>hx.mono (by omega)) h1
theorem KnLow.putL {procs:List UInt8->Option Prc}{low:Sts->Prop}{kn:Kn}(h:KnLow procs low kn)(l:List (List UInt8)):KnLow procs low (putL (1,0) l kn):=λy na hy=>by
 unfold Go.Proofs.YtmopichdofgndaaGreatDoor.putL at hy;by_cases e:y∈l
 ·rw[if_pos e]at hy;simp at hy
 ·rw[if_neg e]at hy;exact h y na hy
theorem zc0:∀ {xs:List Prc} {y:List UInt8},y∉nmP xs->zaj xs y=none
 | [],_,_=>rfl
 |x::r,y,h=>by
  simp only[nmP,List.map_cons,List.mem_cons,not_or]at h;unfold zaj;rw[zc0 h.2,if_neg h.1]
theorem zdJ:∀ {xs:List Prc},(nmP xs).Nodup ->∀ {x:Prc},x∈xs->zaj xs x.nm.data.toList=some x
 | [],_,_,h=>by simp at h
 |p::r,hn,x,h=>by
  have hn:=List.nodup_cons.1 hn;unfold zaj;rcases List.mem_cons.1 h with rfl|h
  ·rw[zc0 hn.1,if_pos rfl]
  ·rw[zdJ hn.2 h]
theorem zbd:∀ {xs:List Prc} {y:List UInt8} {x:Prc},zaj xs y=some x->x∈xs/\x.nm.data.toList=y
 | [],_,_,h=>by simp[zaj]at h
 |p::r,y,x,h=>by
  unfold zaj at h;cases e:zaj r y with
  |some z=>
   rw[e]at h;have h:=Option.some.inj h;subst h;have:=zbd e;exact⟨by simp[this.1],this.2⟩
  |none=>
   rw[e]at h;simp only at h;by_cases e2:y=p.nm.data.toList
   ·rw[if_pos e2]at h;have h:=Option.some.inj h;subst h;exact⟨by simp,e2.symm⟩
   ·rw[if_neg e2]at h;simp at h
theorem zfQ {procs:List UInt8->Option Prc}:∀(xs:List Prc)(kn:Kn)(f:Nat),(∀x∈xs,procs x.nm.data.toList=some x)->zgA xs kn->KnLow procs (λxs=>∃g,g < f/\Lv procs g xs) kn->KnLow procs (λys=>∃g,g < f+xs.length/\Lv procs g ys) (zkY xs kn)
 | [],kn,f,_,_,hk=>hk
 |x::r,kn,f,hp,⟨⟨h1,h2,h3⟩,h4⟩,hk=>by
  have hb:Lv procs f x.body:=znf (hk.putL _) h3;have He:KnLow procs (λxs=>∃g,g < f+1/\Lv procs g xs) (kn.put x.nm.data.toList (3,x.params.length)):=λy na hy=>by
   unfold Kn.put at hy;by_cases e:y=x.nm.data.toList
   ·rw[if_pos e]at hy;have hy:=Option.some.inj hy;subst e;exact⟨x,hp x (by simp),by rw[<-(Prod.mk.inj hy).2],f,by omega,hb⟩
   ·rw[if_neg e]at hy;obtain⟨z,g1,g2,g,g3,g4⟩:=hk y na hy;exact⟨z,g1,g2,g,by omega,g4⟩
  have ih:=zfQ r _ (f+1) (λz hz=>hp z (by simp[hz])) h4 He;intro y na hy;obtain⟨z,g1,g2,g,g3,g4⟩:=ih y na hy;exact⟨z,g1,g2,g,by simp;omega,g4⟩
theorem ze2 {t:Tre}(h:OkT t):Lv (zaj t.procs) t.procs.length t.main:=by
 have hn:=(freshL_iff.1 h.procs).2;have h0:KnLow (zaj t.procs) (λxs=>∃g,g < 0/\Lv (zaj t.procs) g xs) (knT t):=λy na hy=>by
  unfold knT putL at hy;split at hy
  ·simp at hy
  split at hy
  ·simp at hy
  split at hy
  ·simp at hy
  ·simp at hy
 have:=zfQ t.procs (knT t) 0 (λx hx=>zdJ hn hx) h.each h0;rw[Nat.zero_add]at this;exact znf this h.main
