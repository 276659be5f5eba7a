/- Plain. -/
import Derived.Test.YtfomomaomggpbaaGreatDoorJnCkF
import Derived.Test.YtfomomaomggpbaaGreatDoorJgBgData
set_option linter.all false
namespace Go.Proofs.YtfomomaomggpbaaGreatDoor
open Go.RowKit Go.Shelf Go.Maps
theorem zlp (st p:Int×Int):askC st true p=st:=rfl
theorem zdv {st:Int×Int}{is:Bool}{p:Int×Int}(hp:p.2≠0)(h:(askC st is p).2 =0):is=true/\askC st is p=st:=by
 cases is with
 |true=>exact⟨rfl,rfl⟩
 |false=>
  exfalso
  have h:(zdM st p).2 =0:=h;unfold zdM at h;by_cases e:st.2=0
  ·rw[if_pos e]at h;exact hp h
  ·rw[if_neg e]at h;exact e h
def isK (kn:Kn)(t:List UInt8)(k:Int):Prop:=∃v,kn t=some (k,v)
theorem zez {kn:Kn}{st:Int×Int}{t:List UInt8}{k at_:Int}(h:(useC kn st t k at_).2 =0):isK kn t k/\useC kn st t k at_=st:=by
 unfold useC at h ⊢;obtain⟨h1,h2⟩:=zdv (by simp) h;rw[h2]at h;obtain⟨h3,h4⟩:=zdv (by simp) h;refine⟨?_,h2.trans h4⟩;simp only[Bool.and_eq_true]at h3;obtain⟨⟨a,b⟩,hv⟩:=Option.isSome_iff_exists.1 h3.1;rw[hv]at h1;have h1:a=k:=by simpa using h1
 exact⟨b,by rw[hv,h1]⟩
theorem zeA {kn:Kn}{st:Int×Int}{t:List UInt8}{k at_:Int}(h:isK kn t k)(hk:k≠4):useC kn st t k at_=st:=by
 obtain⟨v,hv⟩:=h;unfold useC;rw[hv];simp[askC,hk]
def okUX (kn:Kn):Exs->Prop
 | .nil =>True
 | .cons k nm _ args _ r=>(k=2->isK kn nm.data.toList 1)/\(k=3->isK kn nm.data.toList 2)/\okUX kn args/\okUX kn r
theorem zcZ {kn:Kn}:∀(xs:Exs)(st:Int×Int),okUX kn xs->zaI kn xs st=st
 | .nil,st,_=>rfl
 | .cons k nm n args at_ r,st,h=>by
  obtain⟨h1,h2,h3,h4⟩:=h;unfold zaI;have e:(if k=2 then useC kn st nm.data.toList 1 at_ else if k=3 then useC kn st nm.data.toList 2 at_ else st)=st:=by
   by_cases e2:k=2
   ·rw[if_pos e2,zeA (h1 e2) (by decide)]
   ·rw[if_neg e2];by_cases e3:k=3
    ·rw[if_pos e3,zeA (h2 e3) (by decide)]
    ·rw[if_neg e3]
  rw[e,zcZ args st h3,zcZ r st h4]
theorem zc0 {kn:Kn}:∀(xs:Exs)(st:Int×Int),(zaI kn xs st).2 =0->okUX kn xs/\zaI kn xs st=st
 | .nil,st,_=>⟨trivial,rfl⟩
 | .cons k nm n args at_ r,st,h=>by
  unfold zaI at h ⊢;obtain⟨h4,e4⟩:=zc0 r _ h;rw[e4]at h ⊢;obtain⟨h3,e3⟩:=zc0 args _ h;rw[e3]at h ⊢;by_cases e2:k=2
  ·subst e2;rw[if_pos rfl]at h ⊢;obtain⟨h1,e1⟩:=zez h;exact⟨⟨λ_=>h1,λe=>absurd e (by decide),h3,h4⟩,e1⟩
  ·rw[if_neg e2]at h ⊢;by_cases e3:k=3
   ·subst e3;rw[if_pos rfl]at h ⊢;obtain⟨h1,e1⟩:=zez h;exact⟨⟨λe=>absurd e (by decide),λ_=>h1,h3,h4⟩,e1⟩
   ·rw[if_neg e3];exact⟨⟨λe=>absurd e e2,λe=>absurd e e3,h3,h4⟩,rfl⟩
def okUC (kn:Kn):Cds->Prop
 | .nil =>True
 | .cons _ args of_ _ r=>okUX kn args/\okUC kn of_/\okUC kn r
theorem zeB {kn:Kn}:∀(xs:Cds)(st:Int×Int),okUC kn xs->zaV kn xs st=st
 | .nil,st,_=>rfl
 | .cons k args of_ at_ r,st,h=>by
  obtain⟨h1,h2,h3⟩:=h;unfold zaV;rw[zcZ args st h1,zeB of_ st h2,zeB r st h3]
theorem zeC {kn:Kn}:∀(xs:Cds)(st:Int×Int),(zaV kn xs st).2 =0->okUC kn xs/\zaV kn xs st=st
 | .nil,st,_=>⟨trivial,rfl⟩
 | .cons k args of_ at_ r,st,h=>by
  unfold zaV at h ⊢;obtain⟨h3,e3⟩:=zeC r _ h;rw[e3]at h ⊢;obtain⟨h2,e2⟩:=zeC of_ _ h;rw[e2]at h ⊢;obtain⟨h1,e1⟩:=zc0 args _ h;exact⟨⟨h1,h2,h3⟩,e1⟩
def okUH (kn:Kn)(k:Int)(t:List UInt8)(na:Int):Prop:=(k=2\/k=4->isK kn t 1)/\(k=3->isK kn t 2)/\(k=9->kn t=some (3,na))
theorem znl {kn:Kn}{k:Int}{t:List UInt8}{na at_:Int}{st:Int×Int}(h:okUH kn k t na):zex kn k t na at_ st=st:=by
 obtain⟨h1,h2,h3⟩:=h;unfold zex;by_cases e1:k=2\/k=4
 ·rw[if_pos e1,zeA (h1 e1) (by decide)]
 ·rw[if_neg e1];by_cases e2:k=3
  ·rw[if_pos e2,zeA (h2 e2) (by decide)]
  ·rw[if_neg e2];by_cases e3:k=9
   ·rw[if_pos e3,zeA ⟨_,h3 e3⟩ (by decide),h3 e3];simp[askC]
   ·rw[if_neg e3]
theorem znm {kn:Kn}{k:Int}{t:List UInt8}{na at_:Int}{st:Int×Int}(h:(zex kn k t na at_ st).2 =0):okUH kn k t na/\zex kn k t na at_ st=st:=by
 unfold zex at h ⊢;by_cases e1:k=2\/k=4
 ·rw[if_pos e1]at h ⊢;obtain⟨h1,h2⟩:=zez h;exact⟨⟨λ_=>h1,λe=>by omega,λe=>by omega⟩,h2⟩
 ·rw[if_neg e1]at h ⊢;by_cases e2:k=3
  ·rw[if_pos e2]at h ⊢;obtain⟨h1,h2⟩:=zez h;exact⟨⟨λe=>absurd e e1,λ_=>h1,λe=>by omega⟩,h2⟩
  ·rw[if_neg e2]at h ⊢;by_cases e3:k=9
   ·rw[if_pos e3]at h ⊢;obtain⟨h1,h2⟩:=zdv (by simp) h;rw[h2]at h ⊢;obtain⟨⟨v,hv⟩,h4⟩:=zez h;rw[hv]at h1;have h1:v=na:=by simpa using h1
    exact⟨⟨λe=>absurd e e1,λe=>absurd e e2,λ_=>by rw[hv,h1]⟩,h4⟩
   ·rw[if_neg e3];exact⟨⟨λe=>absurd e e1,λe=>absurd e e2,λe=>absurd e e3⟩,rfl⟩
def okUS (kn:Kn):Sts->Prop
 | .nil =>True
 | .cons k nm args cond body els _ r=>okUH kn k nm.data.toList (args.len:Int)/\okUX kn args/\okUC kn cond/\okUS kn body/\okUS kn els/\okUS kn r
theorem zc1 {kn:Kn}:∀(xs:Sts)(st:Int×Int),okUS kn xs->zaq kn xs st=st
 | .nil,st,_=>rfl
 | .cons k nm args cond body els at_ r,st,h=>by
  obtain⟨h0,h1,h2,h3,h4,h5⟩:=h;unfold zaq;rw[znl h0,zcZ args st h1,zeB cond st h2,zc1 body st h3,zc1 els st h4,zc1 r st h5]
theorem zcb {kn:Kn}:∀(xs:Sts)(st:Int×Int),(zaq kn xs st).2 =0->okUS kn xs/\zaq kn xs st=st
 | .nil,st,_=>⟨trivial,rfl⟩
 | .cons k nm args cond body els at_ r,st,h=>by
  unfold zaq at h ⊢;obtain⟨h5,e5⟩:=zcb r _ h;rw[e5]at h ⊢;obtain⟨h4,e4⟩:=zcb els _ h;rw[e4]at h ⊢;obtain⟨h3,e3⟩:=zcb body _ h;rw[e3]at h ⊢;obtain⟨h2,e2⟩:=zeC cond _ h;rw[e2]at h ⊢;obtain⟨h1,e1⟩:=zc0 args _ h;rw[e1]at h ⊢;obtain⟨h0,e0⟩:=znm h;exact⟨⟨h0,h1,h2,h3,h4,h5⟩,e0⟩
def zaQ (kn:Kn):List (List UInt8)->Prop
 | []=>True
 |t::r=>kn t=none/\t∉r/\zaQ kn r
theorem freshL_iff {kn:Kn}:∀ {l:List (List UInt8)},zaQ kn l↔(∀t∈l,kn t=none)/\l.Nodup
 | []=>by simp[zaQ]
 |t::r=>by
  unfold zaQ;rw[freshL_iff (l:=r),List.nodup_cons];simp only[List.mem_cons,forall_eq_or_imp];constructor
  ·rintro⟨a,b,c,d⟩;exact⟨⟨a,c⟩,b,d⟩
  ·rintro⟨⟨a,c⟩,b,d⟩;exact⟨a,b,c,d⟩
def putL (v:Int×Int)(l:List (List UInt8))(kn:Kn):Kn:=λy=>if y∈l then some v else kn y
theorem zf0 (v:Int×Int)(kn:Kn):putL v [] kn=kn:=by funext y;simp[putL]
theorem zeD (v:Int×Int)(t:List UInt8)(r:List (List UInt8))(kn:Kn):putL v r (kn.put t v)=putL v (t::r) kn:=by
 funext y
 unfold putL Kn.put;by_cases h1:y∈r
 ·simp[h1]
 ·by_cases h2:y=t
  ·simp[h2]
  ·simp[h1,h2]
theorem zdR {s:Cks}{t:List UInt8}{at_:Int}{v:Int×Int}(h:s.1 t=none):zbM s t at_ v=(s.1.put t v,s.2):=by
 unfold zbM zlf zfY;rw[h];simp[askC]
theorem zf1 {s:Cks}{t:List UInt8}{at_:Int}{v:Int×Int}(h:(zbM s t at_ v).2.2 =0):s.1 t=none/\zbM s t at_ v=(s.1.put t v,s.2):=by
 have h:(zfY s.1 s.2 t at_).2 =0:=h;unfold zfY at h;have h1:=(zdv (by simp) h).1;have h2:s.1 t=none:=by
  cases e:s.1 t with
  |none=>rfl
  |some x=>rw[e]at h1;simp at h1
 exact⟨h2,zdR h2⟩
abbrev nmV (xs:List Va):List (List UInt8):=xs.map λx=>x.nm.data.toList
abbrev nmA (xs:List Arr):List (List UInt8):=xs.map λx=>x.nm.data.toList
abbrev nmP (xs:List Prc):List (List UInt8):=xs.map λx=>x.nm.data.toList
theorem zeE {kn:Kn}{t:List UInt8}{v:Int×Int}{l:List (List UInt8)}(h:zaQ (kn.put t v) l):t∉l/\zaQ kn l:=by
 rw[freshL_iff]at h ⊢;have h1:t∉l:=λhm=>by have:=h.1 t hm;simp[Kn.put]at this
 refine⟨h1,λx hx=>?_,h.2⟩;have:=h.1 x hx;unfold Kn.put at this;rw[if_neg (λe:x=t=>h1 (e▸hx))]at this;exact this
theorem zdw {kn:Kn}{t:List UInt8}{v:Int×Int}{l:List (List UInt8)}(h1:t∉l)(h:zaQ kn l):zaQ (kn.put t v) l:=by
 rw[freshL_iff]at h ⊢;refine⟨λx hx=>?_,h.2⟩;unfold Kn.put;rw[if_neg (λe:x=t=>h1 (e▸hx))];exact h.1 x hx
theorem zbN {v:Int×Int}:∀(xs:List Va)(s:Cks),zaQ s.1 (nmV xs)->zaJ v xs s=(putL v (nmV xs) s.1,s.2)
 | [],s,_=>by simp[zaJ,zf0]
 |x::r,s,h=>by
  obtain⟨h1,h2,h3⟩:=h;unfold zaJ;rw[zdR h1,zbN r _ (zdw h2 h3),zeD];rfl
theorem zeF {v:Int×Int}:∀(xs:List Va)(s:Cks),(zaJ v xs s).2.2 =0->zaQ s.1 (nmV xs)
 | [],s,_=>trivial
 |x::r,s,h=>by
  unfold zaJ at h;have h3:=zeF r _ h;rw[zbN r _ h3]at h;obtain⟨h1,e1⟩:=zf1 h;rw[e1]at h3;have h4:=zeE h3;exact⟨h1,h4.1,h4.2⟩
def ziq (xs:List Arr):Prop:=∀x∈xs,1<=x.size/\x.size<=16
theorem zcp:∀(xs:List Arr)(s:Cks),zaQ s.1 (nmA xs)->ziq xs->za5 xs s=(putL (2,0) (nmA xs) s.1,s.2)
 | [],s,_,_=>by simp[za5,zf0]
 |x::r,s,h,hz=>by
  obtain⟨h1,h2,h3⟩:=h;have hx:=hz x (by simp);unfold za5 zjs;rw[zdR h1];have e:(decide ((1:Int)<=x.size)&&decide (x.size<=(16:Int)))=true:=by simpa using hx
  rw[e,zlp,zcp r _ (zdw h2 h3) (λy hy=>hz y (by simp[hy])),zeD];rfl
theorem zfo:∀(xs:List Arr)(s:Cks),(za5 xs s).2.2 =0->zaQ s.1 (nmA xs)/\ziq xs
 | [],s,_=>⟨trivial,λx hx=>by simp at hx⟩
 |x::r,s,h=>by
  unfold za5 at h;obtain⟨h3,hz⟩:=zfo r _ h;rw[zcp r _ h3 hz]at h;unfold zjs at h h3;simp only at h h3;obtain⟨hq,e0⟩:=zdv (by simp) h;rw[e0]at h;obtain⟨h1,e1⟩:=zf1 h;rw[e1]at h3;have h4:=zeE h3;have hq:1<=x.size/\x.size<=16:=by simpa using hq
  exact⟨⟨h1,h4.1,h4.2⟩,λy hy=>by
   rcases List.mem_cons.1 hy with rfl|hy
   ·exact hq
   ·exact hz y hy⟩
theorem zcq:∀(xs:List Prc)(s:Cks),zaQ s.1 (nmP xs)->za6 xs s=(putL (4,0) (nmP xs) s.1,s.2)
 | [],s,_=>by simp[za6,zf0]
 |x::r,s,h=>by
  obtain⟨h1,h2,h3⟩:=h;unfold za6;rw[zdR h1,zcq r _ (zdw h2 h3),zeD];rfl
theorem zfp:∀(xs:List Prc)(s:Cks),(za6 xs s).2.2 =0->zaQ s.1 (nmP xs)
 | [],s,_=>trivial
 |x::r,s,h=>by
  unfold za6 at h;have h3:=zfp r _ h;rw[zcq r _ h3]at h;obtain⟨h1,e1⟩:=zf1 h;rw[e1]at h3;have h4:=zeE h3;exact⟨h1,h4.1,h4.2⟩
theorem zir:∀(xs:List Va)(kn:Kn)(y:List UInt8),zcs xs kn y=if y∈nmV xs then none else kn y
 | [],kn,y=>by simp[zcs]
 |x::r,kn,y=>by
  unfold zcs;rw[zir r];unfold Kn.del nmV;by_cases h1:y∈nmV r
  ·unfold nmV at h1;simp only[List.map_cons,List.mem_cons,h1,or_true,if_true]
  ·unfold nmV at h1;by_cases h2:y=x.nm.data.toList
   ·simp[h2]
   ·simp only[List.map_cons,List.mem_cons,h1,h2,or_false,if_false]
theorem zlq {xs:List Va}{kn:Kn}{v:Int×Int}(h:zaQ kn (nmV xs)):zcs xs (putL v (nmV xs) kn)=kn:=by
 funext y
 rw[zir];unfold putL;by_cases e:y∈nmV xs
 ·rw[if_pos e,(freshL_iff.1 h).1 y e]
 ·rw[if_neg e,if_neg e]
def okP (x:Prc)(kn:Kn):Prop:=x.params.length<=4/\zaQ kn (nmV x.params)/\okUS (putL (1,0) (nmV x.params) kn) x.body
theorem zis {x:Prc}{s:Cks}(h:okP x s.1)(he:s.2.2=0):zbB x.nm.data.toList x.params x.body x.at_ s=(s.1.put x.nm.data.toList (3,x.params.length),s.2):=by
 obtain⟨h1,h2,h3⟩:=h;unfold zbB;have e:decide ((x.params.length:Int)<=4)=true:=by simp;omega
 rw[e,zlp,zbN _ _ h2];simp only;rw[if_pos he,zc1 _ _ h3,zlq h2]
theorem znn {x:Prc}{s:Cks}(h:(zbB x.nm.data.toList x.params x.body x.at_ s).2.2 =0):okP x s.1:=by
 unfold zbB at h;simp only at h;by_cases e:(zaJ (1,0) x.params (s.1,askC s.2 (decide ((x.params.length:Int)<=4)) (x.at_,4))).2.2 =0
 ·rw[if_pos e]at h;have h2:=zeF _ _ e;rw[zbN _ _ h2]at e h;simp only at e h;have h1:=(zdv (by simp) e).1;have h3:=(zcb _ _ h).1;exact⟨by simp at h1;omega,h2,h3⟩
 ·rw[if_neg e]at h;exact absurd h e
def zlr:List Prc->Kn->Prop
 | [],_=>True
 |x::r,kn=>okP x kn/\zlr r (kn.put x.nm.data.toList (3,x.params.length))
def zjw:List Prc->Kn->Kn
 | [],kn=>kn
 |x::r,kn=>zjw r (kn.put x.nm.data.toList (3,x.params.length))
theorem zgY:∀(xs:List Prc)(s:Cks),zlr xs s.1->s.2.2=0->zam xs s=((zjw xs s.1,s.2),false)
 | [],s,_,_=>rfl
 |x::r,s,h,he=>by
  unfold zam;rw[zis h.1 he,if_pos he,zgY r (s.1.put x.nm.data.toList (3,x.params.length),s.2) h.2 he];rfl
theorem zgZ:∀(xs:List Prc)(s:Cks),(zam xs s).1.2.2 =0->s.2.2=0->zlr xs s.1
 | [],s,_,_=>trivial
 |x::r,s,h,he=>by
  unfold zam at h;by_cases e:(zbB x.nm.data.toList x.params x.body x.at_ s).2.2 =0
  ·have h1:=znn e;rw[zis h1 he]at h;rw[if_pos he]at h;exact⟨h1,zgZ r _ h he⟩
  ·rw[if_neg e]at h;exact absurd h e
theorem zfq:∀(xs:List Prc)(s:Cks),(zam xs s).2 =true->(zam xs s).1.2.2 ≠0
 | [],s,h=>by simp[zam]at h
 |x::r,s,h=>by
  unfold zam at h ⊢;by_cases e:(zbB x.nm.data.toList x.params x.body x.at_ s).2.2 =0
  ·rw[if_pos e]at h ⊢;exact zfq r _ h
  ·rw[if_neg e];exact e
theorem zhF {st p:Int×Int}(h:st.2≠0):zdM st p=st:=by unfold zdM;rw[if_neg h]
theorem zfr {st p:Int×Int}{is:Bool}(h:st.2≠0):askC st is p=st:=by cases is<;>simp[askC,zhF h]
theorem zhG {nm:List UInt8}{ps:List Va}{body:Sts}{at_:Int}{s:Cks}(h:s.2.2≠0):(zbB nm ps body at_ s).2.2 ≠0:=by
 have hd:∀(xs:List Va)(s:Cks),s.2.2≠0->(zaJ (1,0) xs s).2.2 ≠0:=by
  intro xs
  induction xs with
  |nil=>exact λs h=>h
  |cons x r ih=>
   intro s h;unfold zaJ;refine ih _ ?_;show(zfY s.1 s.2 _ _).2 ≠0
   unfold zfY;rw[zfr h];exact h
 unfold zbB;simp only;have h2:=hd ps (s.1,askC s.2 (decide ((ps.length:Int)<=4)) (at_,4)) (by rw[zfr h];exact h);rw[if_neg h2];exact h2
def knT (t:Tre):Kn:=putL (4,0) (nmP t.procs) (putL (2,0) (nmA t.arrays) (putL (1,0) (nmV t.vars) λ_=>none))
structure OkT (t:Tre):Prop where
 tree:okTr t=true
 few:fewT t=true
 vars:zaQ (λ_=>none) (nmV t.vars)
 arrays:zaQ (putL (1,0) (nmV t.vars) λ_=>none) (nmA t.arrays)
 sizes:ziq t.arrays
 procs:zaQ (putL (2,0) (nmA t.arrays) (putL (1,0) (nmV t.vars) λ_=>none)) (nmP t.procs)
 each:zlr t.procs (knT t)
 main:okUS (zjw t.procs (knT t)) t.main
theorem zno {t:Tre}(h1:zaQ (λ_=>none) (nmV t.vars))(h2:zaQ (putL (1,0) (nmV t.vars) λ_=>none) (nmA t.arrays))(h3:ziq t.arrays)(h4:zaQ (putL (2,0) (nmA t.arrays) (putL (1,0) (nmV t.vars) λ_=>none)) (nmP t.procs)):
  zbd t=(knT t,(0,0)):=by
 unfold zbd;rw[zbN _ _ h1,zcp _ _ h2 h3,zcq _ _ h4];rfl
theorem zf2 {t:Tre}(h:(zbw t).2 =0):OkT t:=by
 unfold zbw at h;by_cases h1:okTr t=true
 rotate_left
 ·rw[if_neg h1]at h;exact absurd h (by decide)
 rw[if_pos h1]at h;by_cases h2:fewT t=true
 rotate_left
 ·rw[if_neg h2]at h;exact absurd h (by decide)
 rw[if_pos h2]at h;have h3:(zam t.procs (zbd t)).2 =false:=by
  cases e:(zam t.procs (zbd t)).2 with
  |false=>rfl
  |true=>
   rw[e,if_pos rfl]at h;exact absurd h (zfq _ _ e)
 rw[h3]at h;simp only[Bool.false_eq_true,if_false]at h;obtain⟨h4,e4⟩:=zcb _ _ h;rw[e4]at h;have h5:(zbd t).2.2 =0:=by
  by_cases e:(zbd t).2.2 =0
  ·exact e
  exfalso
  cases hp:t.procs with
  |nil=>rw[hp]at h;exact e h
  |cons x r=>
   rw[hp]at h3;unfold zam at h3;rw[if_neg (zhG e)]at h3;exact absurd h3 (by simp)
 have hd:=h5;unfold zbd at hd;have q3:=zfp _ _ hd;rw[zcq _ _ q3]at hd;obtain⟨q2,q4⟩:=zfo _ _ hd;rw[zcp _ _ q2 q4]at hd q3;have q1:=zeF _ _ hd;rw[zbN _ _ q1]at q2 q3;have vZ:=zno q1 q2 q4 q3;rw[vZ]at h h4;have h6:=zgZ _ _ h rfl;rw[zgY _ _ h6 rfl]at h4;exact⟨h1,h2,q1,q2,q4,q3,h6,h4⟩
theorem fewT_iff {t:Tre}:fewT t=true↔t.vars.length<=12/\t.arrays.length<=4/\t.procs.length<=8:=by
 unfold fewT;simp only[Bool.and_eq_true,decide_eq_true_eq];omega
def zaX:List Prc->List UInt8->Option Prc
 | [],_=>none
 |x::r,y=>match zaX r y with
  |some z=>some z
  |none=>if y=x.nm.data.toList then some x else none
theorem zdE:∀ {xs:List Prc} {y:List UInt8},y∉nmP xs->zaX xs y=none
 | [],_,_=>rfl
 |x::r,y,h=>by
  simp only[nmP,List.map_cons,List.mem_cons,not_or]at h;unfold zaX;rw[zdE h.2,if_neg h.1]
theorem zcD:∀ {xs:List Prc},(nmP xs).Nodup ->∀ {x:Prc},x∈xs->zaX xs x.nm.data.toList=some x
 | [],_,_,h=>by simp at h
 |p::r,hn,x,h=>by
  have hn:=List.nodup_cons.1 hn;unfold zaX;rcases List.mem_cons.1 h with rfl|h
  ·rw[zdE hn.1,if_pos rfl]
  ·rw[zcD hn.2 h]
theorem zfs:∀ {xs:List Prc} {y:List UInt8} {x:Prc},zaX xs y=some x->x∈xs/\x.nm.data.toList=y
 | [],_,_,h=>by simp[zaX]at h
 |p::r,y,x,h=>by
  unfold zaX at h;cases e:zaX r y with
  |some z=>
   rw[e]at h;have h:=Option.some.inj h;subst h;have:=zfs e;exact⟨by simp[this.1],this.2⟩
  |none=>
   rw[e]at h;simp only at h;by_cases e2:y=p.nm.data.toList
   ·rw[if_pos e2]at h;have h:=Option.some.inj h;subst h;exact⟨by simp,e2.symm⟩
   ·rw[if_neg e2]at h;simp at h
open Go.RowKit
def Exs.bare:Exs->Exs
 | .nil => .nil
 | .cons k nm n args _ rest=> .cons k nm n args.bare 0 rest.bare
def Cds.bare:Cds->Cds
 | .nil => .nil
 | .cons k args of_ _ rest=> .cons k args.bare of_.bare 0 rest.bare
def Sts.bare:Sts->Sts
 | .nil => .nil
 | .cons k nm args cond body els _ rest=> .cons k nm args.bare cond.bare body.bare els.bare 0 rest.bare
def Va.bare (x:Va):Va:=⟨x.nm,0⟩
def Arr.bare (x:Arr):Arr:=⟨x.nm,x.size,0⟩
def Prc.bare (x:Prc):Prc:=⟨x.nm,x.params.map Va.bare,x.body.bare,0⟩
def Tre.bare (t:Tre):Tre:=⟨t.vars.map Va.bare,t.arrays.map Arr.bare,t.procs.map Prc.bare,t.main.bare⟩
theorem zbe:∀xs:Exs,xs.bare.len=xs.len
 | .nil =>rfl
 | .cons _ _ _ _ _ r=>by simp only[Exs.bare,Exs.len,zbe r]
theorem zcc:∀xs:Cds,xs.bare.len=xs.len
 | .nil =>rfl
 | .cons _ _ _ _ r=>by simp only[Cds.bare,Cds.len,zcc r]
theorem zbO:∀xs:Sts,xs.bare.len=xs.len
 | .nil =>rfl
 | .cons _ _ _ _ _ _ _ r=>by simp only[Sts.bare,Sts.len,zbO r]
def Ho.bare (h:Ho):Ho:={h with at_:=0}
def Bn.bare (n:Bn):Bn:=⟨n.vars,n.arrs,λy=>(n.procs y).map Prc.bare⟩
def hoB {α:Type}:Ho ⊕ α->Ho ⊕ α
 | .inl h=> .inl h.bare
 | .inr x=> .inr x
theorem zls {α β:Type}{c:Prop}{i j:Decidable c}(f:α->β){a b:β}{x y:α}(h1:a=f x)(h2:b=f y): @ite β c i a b=f (@ite α c j x y):=by
 by_cases h:c
 ·rw[if_pos h,if_pos h,h1]
 ·rw[if_neg h,if_neg h,h2]
theorem zlt (n:Bn)(ps:List (List UInt8))(s:Bs)(nm:ByteArray):getV n.bare ps s nm=getV n ps s nm:=rfl
theorem zlu (n:Bn)(ps:List (List UInt8))(s:Bs)(nm:ByteArray)(x:Int):setB n.bare ps s nm x=setB n ps s nm x:=rfl
theorem zg0 (n:Bn)(nm:ByteArray):arrI n.bare nm=arrI n nm:=rfl
theorem zjx (n:Bn)(ps:List (List UInt8))(s:Bs)(k:Int)(nm:ByteArray)(m at_:Int)(l:List Int):zdt n.bare ps s k nm m 0 l=hoB (zdt n ps s k nm m at_ l):=by
 unfold zdt;simp only[zlt,zg0];by_cases h1:k=1
 ·simp only[if_pos h1];rfl
 simp only[if_neg h1];by_cases h2:k=2
 ·simp only[if_pos h2];rfl
 simp only[if_neg h2];by_cases h3:k=3
 ·simp only[if_pos h3];exact zls hoB rfl rfl
 simp only[if_neg h3];split<;>rfl
theorem zcd (n:Bn)(ps:List (List UInt8))(s:Bs):∀xs,valL n.bare ps s xs.bare=hoB (valL n ps s xs)
 | .nil =>rfl
 | .cons k nm m args at_ r=>by
  simp only[valL,Exs.bare,zcd n ps s args,zcd n ps s r];rcases valL n ps s args with a|a
  ·rfl
  ·simp only[hoB,zjx n ps s k nm m at_ a];rcases zdt n ps s k nm m at_ a with b|b
   ·rfl
   ·simp only[hoB];rcases valL n ps s r with c|c<;>rfl
def truB (t:Tru):Tru:=λl=>(hoB (t l).1,(t l).2)
theorem zit (l:List Tru)(i:Nat):(l.map truB).getD i (λl=>(.inr false,l))=truB (l.getD i λl=>(.inr false,l)):=by
 simp only[List.getD_eq_getElem?_getD,List.getElem?_map];cases l[i]?<;>rfl
theorem zlv (n:Bn)(ps:List (List UInt8))(s:Bs)(k:Int)(args:Exs)(of_:List Tru)(at_:Int):truF n.bare ps s k args.bare (of_.map truB) 0=truB (truF n ps s k args of_ at_):=by
 funext l
 unfold truF;simp only[zit,zcd];show _=(hoB (truF n ps s k args of_ at_ l).1,(truF n ps s k args of_ at_ l).2)
 unfold truF;by_cases h1:k=1
 ·simp only[if_pos h1];rfl
 simp only[if_neg h1];by_cases h2:k=2
 ·simp only[if_pos h2];rfl
 simp only[if_neg h2];by_cases h9:k=9
 ·simp only[if_pos h9,truB];rcases(of_.getD 0 λl=>(.inr false,l)) l with⟨x|b,q⟩<;>rfl
 simp only[if_neg h9];by_cases Jj:k=10
 ·simp only[if_pos Jj,truB];rcases(of_.getD 0 λl=>(.inr false,l)) l with⟨x|(_|_),q⟩<;>rfl
 simp only[if_neg Jj];by_cases Pu:k=11
 ·simp only[if_pos Pu,truB];rcases(of_.getD 0 λl=>(.inr false,l)) l with⟨x|(_|_),q⟩<;>rfl
 simp only[if_neg Pu];cases l with
 |zero=>rfl
 |succ q=>
  simp only;rcases valL n ps s args with x|x<;>rfl
theorem zeG (n:Bn)(ps:List (List UInt8))(s:Bs):∀xs,truC n.bare ps s xs.bare=(truC n ps s xs).map truB
 | .nil =>rfl
 | .cons k args of_ at_ r=>by
  simp only[truC,Cds.bare,zeG n ps s of_,zeG n ps s r,List.map_cons,zlv n ps s k args _ at_]
theorem zlw (n:Bn)(ps:List (List UInt8))(s:Bs)(xs:Cds):truH n.bare ps s xs.bare=truB (truH n ps s xs):=by
 unfold truH;rw[zeG,zit]
theorem zc2 {n:Bn}{ps:List (List UInt8)}{s:Bs}{xs:Cds}{l m:Nat}{r:Ho ⊕ Bool}(e:truH n ps s xs m=(r,l)):truH n.bare ps s xs.bare m=(hoB r,l):=by
 rw[zlw];unfold truB;rw[e]
theorem zhH (n:Bn)(ps:List (List UInt8))(s:Bs)(k:Int)(nm:ByteArray)(args:Exs)(at_:Int):zbj n.bare ps s k nm args.bare 0=((zbj n ps s k nm args at_).1.map Ho.bare,(zbj n ps s k nm args at_).2):=by
 unfold zbj;cases s.left with
 |zero=>rfl
 |succ l=>
  simp only[zcd,zlu,zg0];by_cases h2:k=2
  ·simp only[if_pos h2];rcases valL n ps {s with left:=l} args with x|x<;>rfl
  simp only[if_neg h2];by_cases h3:k=3
  ·simp only[if_pos h3];rcases valL n ps {s with left:=l} args with x|x
   ·rfl
   ·simp only[hoB];exact zls (λz:Option Ho×Bs=>(z.1.map Ho.bare,z.2)) rfl rfl
  simp only[if_neg h3];by_cases h4:k=4
  ·simp only[if_pos h4];cases s.script<;>rfl
  simp only[if_neg h4];rfl
theorem zcE (n:Bn)(ps:List (List UInt8))(at_:Int):∀(vs:List Va)(xs:Exs)(s:Bs),zbu n.bare ps 0 (vs.map Va.bare) xs.bare s=(hoB (zbu n ps at_ vs xs s).1,(zbu n ps at_ vs xs s).2)
 | [],_,s=>rfl
 |_::_,.nil,s=>rfl
 |v::vs,.cons k nm m a b q,s=>by
  simp only[List.map_cons,Exs.bare];unfold zbu;cases s.left with
  |zero=>rfl
  |succ l=>
   simp only;have e:=zcd n ps {s with left:=l} (.cons k nm m a b .nil);simp only[Exs.bare]at e;simp only[e,zcE n ps at_ vs q {s with left:=l}];rcases valL n ps {s with left:=l} (.cons k nm m a b .nil)with x|x
   ·rfl
   ·simp only[hoB];rcases zbu n ps at_ vs q {s with left:=l}with⟨y|y,t⟩<;>rfl
def Tsk.bare:Tsk->Tsk
 | .all ps xs=> .all ps xs.bare
 | .one ps k nm args cond body els _=> .one ps k nm args.bare cond.bare body.bare els.bare 0
theorem zo7 (p:Prc):(p.bare.params.map (·.nm.data.toList))=p.params.map (·.nm.data.toList):=by
 simp[Prc.bare,Va.bare]
theorem RunT.bare {n:Bn}{tsk:Tsk}{s t:Bs}{h:Option Ho}(r:RunT n tsk s h t):RunT n.bare tsk.bare s (h.map Ho.bare) t:=by
 induction r with
 |nil=>exact .nil
 |next _ _ h1 h2=>exact .next h1 h2
 |stop _ h1=>exact .stop h1
 | @plain ps k nm args cond body els at_ s k4=>
  have h:=RunT.plain (n:=n.bare) (ps:=ps) (nm:=nm) (args:=args.bare) (cond:=cond.bare) (body:=body.bare) (els:=els.bare) (at_:=0) (s:=s) k4;rw[zhH n ps s k nm args at_]at h;exact h
 |fault a b e=>exact .fault a b (zc2 e)
 |holds a e=>exact .holds a (zc2 e)
 | @fails ps k nm args cond body els at_ s l a e=>
  have h:=RunT.fails (n:=n.bare) (ps:=ps) (nm:=nm) (args:=args.bare) (cond:=cond.bare) (body:=body.bare) (els:=els.bare) (at_:=0) (s:=s) a (zc2 e);rcases a with rfl|rfl<;>exact h
 |yes e _ h1=>exact .yes (zc2 e) h1
 |no e _ h1=>exact .no (zc2 e) h1
 |out a b=>exact .out a b
 |ask a e=>exact .ask a (zc2 e)
 |done a e=>exact .done a (zc2 e)
 |leave a e _ h1=>exact .leave a (zc2 e) h1
 |again a e _ _ h1 h2=>exact .again a (zc2 e) h1 h2
 | @give ps nm args cond body els at_ s m p h t a ep e=>
  refine .give (p:=p.bare) a (by unfold Bn.bare;simp only[ep];rfl) ?_;show zbu n.bare ps 0 (p.params.map Va.bare) args.bare _=_
  rw[zcE n ps at_,e];rfl
 | @call ps nm args cond body els at_ s m p xs t h u a ep e _ h1=>
  refine .call (p:=p.bare) (t:=t) (xs:=xs) a (by unfold Bn.bare;simp only[ep];rfl) ?_ ?_
  ·show zbu n.bare ps 0 (p.params.map Va.bare) args.bare _=_
   rw[zcE n ps at_,e];rfl
  ·rw[zo7];exact h1
theorem zft:∀(xs:List Prc)(y:List UInt8),zaX (xs.map Prc.bare) y=(zaX xs y).map Prc.bare
 | [],_=>rfl
 |x::r,y=>by
  simp only[List.map_cons,zaX,zft r y];cases zaX r y with
  |some z=>rfl
  |none=>simp only[Option.map_none];split<;>split<;>first|rfl|(rename_i a b;first|exact absurd a b|exact absurd b a)
def bnOf (t:Tre):Bn:=⟨t.vars.map (·.nm.data.toList),t.arrays.map (·.nm.data.toList),zaX t.procs⟩
theorem zlx (t:Tre):bnOf t.bare=(bnOf t).bare :=by
 unfold bnOf Bn.bare Tre.bare;simp only[List.map_map]
 congr 1
 funext y
 exact zft _ _
theorem RunT.skip {n:Bn}{ps:List (List UInt8)}{xs:Sts}{s t:Bs}{h:Option Ho}{m:Nat}(r:RunT n (.all ps xs) {s with left:=m} h t)(hs:s.left=m+1)(nm:ByteArray)(args:Exs)(cond:Cds)(body els:Sts)(at_:Int):
  RunT n (.all ps (.cons 1 nm args cond body els at_ xs)) s h t:=by
 have h1:=RunT.plain (n:=n) (ps:=ps) (nm:=nm) (args:=args) (cond:=cond) (body:=body) (els:=els) (at_:=at_) (s:=s) (k:=1) (by omega);have e:zbj n ps s 1 nm args at_=(none,{s with left:=m}):=by
  unfold zbj;rw[hs];rfl
 rw[e]at h1;exact .next h1 r
theorem zfu {st xk p p':Int×Int}{is:Bool}(h:st.2=xk.2)(hp:p.2=p'.2):(askC st is p).2 =(askC xk is p').2 :=by
 cases is with
 |true=>exact h
 |false=>
  show(zdM st p).2 =(zdM xk p').2
  unfold zdM;rw[<-h];by_cases e:st.2=0
  ·rw[if_pos e,if_pos e];exact hp
  ·rw[if_neg e,if_neg e];exact h
theorem zg1 {kn:Kn}{st xk:Int×Int}{t:List UInt8}{k a a':Int}(h:st.2=xk.2):(useC kn st t k a).2 =(useC kn xk t k a').2 :=zfu (zfu h rfl) rfl
theorem zdS {kn:Kn}:∀(xs:Exs)(st xk:Int×Int),st.2=xk.2->(zaI kn xs st).2 =(zaI kn xs.bare xk).2
 | .nil,st,xk,h=>h
 | .cons k nm m args a r,st,xk,h=>by
  unfold zaI Exs.bare;refine zdS r _ _ (zdS args _ _ ?_);by_cases e:k=2
  ·rw[if_pos e,if_pos e];exact zg1 h
  ·rw[if_neg e,if_neg e];by_cases e2:k=3
   ·rw[if_pos e2,if_pos e2];exact zg1 h
   ·rw[if_neg e2,if_neg e2];exact h
theorem zf3 {kn:Kn}:∀(xs:Cds)(st xk:Int×Int),st.2=xk.2->(zaV kn xs st).2 =(zaV kn xs.bare xk).2
 | .nil,st,xk,h=>h
 | .cons k args of_ a r,st,xk,h=>by
  unfold zaV Cds.bare;exact zf3 r _ _ (zf3 of_ _ _ (zdS args _ _ h))
theorem zo8 {kn:Kn}{k:Int}{t:List UInt8}{na a a':Int}{st xk:Int×Int}(h:st.2=xk.2):(zex kn k t na a st).2 =(zex kn k t na a' xk).2 :=by
 unfold zex;by_cases e1:k=2\/k=4
 ·rw[if_pos e1,if_pos e1];exact zg1 h
 ·rw[if_neg e1,if_neg e1];by_cases e2:k=3
  ·rw[if_pos e2,if_pos e2];exact zg1 h
  ·rw[if_neg e2,if_neg e2];by_cases e3:k=9
   ·rw[if_pos e3,if_pos e3];exact zfu (zg1 h) rfl
   ·rw[if_neg e3,if_neg e3];exact h
theorem zc3 {kn:Kn}:∀(xs:Sts)(st xk:Int×Int),st.2=xk.2->(zaq kn xs st).2 =(zaq kn xs.bare xk).2
 | .nil,st,xk,h=>h
 | .cons k nm args cond body els a r,st,xk,h=>by
  unfold zaq Sts.bare;refine zc3 r _ _ (zc3 els _ _ (zc3 body _ _ (zf3 cond _ _ (zdS args _ _ ?_))));rw[zbe];exact zo8 h
def Sm (s s':Cks):Prop:=s.1=s'.1/\s.2.2=s'.2.2
theorem zhI {s s':Cks}{t:List UInt8}{a a':Int}{v:Int×Int}(h:Sm s s'):Sm (zbM s t a v) (zbM s' t a' v):=by
 unfold zbM Sm zlf zfY;rw[<-h.1];exact⟨rfl,zfu h.2 rfl⟩
theorem zf4 {v:Int×Int}:∀(xs:List Va)(s s':Cks),Sm s s'->Sm (zaJ v xs s) (zaJ v (xs.map Va.bare) s')
 | [],s,s',h=>h
 |x::r,s,s',h=>zf4 r _ _ (zhI h)
theorem zg2:∀(xs:List Arr)(s s':Cks),Sm s s'->Sm (za5 xs s) (za5 (xs.map Arr.bare) s')
 | [],s,s',h=>h
 |x::r,s,s',h=>by
  refine zg2 r _ _ ?_;have h1:Sm (zbM s x.nm.data.toList x.at_ (2,0)) (zbM s' x.nm.data.toList 0 (2,0)):=zhI h;exact⟨h1.1,zfu h1.2 rfl⟩
theorem zg3:∀(xs:List Prc)(s s':Cks),Sm s s'->Sm (za6 xs s) (za6 (xs.map Prc.bare) s')
 | [],s,s',h=>h
 |x::r,s,s',h=>zg3 r _ _ (zhI h)
theorem zly:∀(xs:List Va)(kn:Kn),zcs xs kn=zcs (xs.map Va.bare) kn
 | [],kn=>rfl
 |x::r,kn=>zly r _
theorem zo9 {x:Prc}{s s':Cks}(h:Sm s s'):Sm (zbB x.nm.data.toList x.params x.body x.at_ s) (zbB x.bare.nm.data.toList x.bare.params x.bare.body x.bare.at_ s'):=by
 have hl:x.bare.params.length=x.params.length:=by simp[Prc.bare]
 unfold zbB;rw[hl];have h1:Sm (zaJ (1,0) x.params (s.1,askC s.2 (decide ((x.params.length:Int)<=4)) (x.at_,4))) (zaJ (1,0) (x.params.map Va.bare) (s'.1,askC s'.2 (decide ((x.params.length:Int)<=4)) (x.bare.at_,4))):=zf4 _ _ _ ⟨h.1,zfu h.2 rfl⟩;show Sm (if _ then _ else _) (if(zaJ (1,0) (x.params.map Va.bare) _).2.2 =0 then _ else _)
 by_cases e:(zaJ (1,0) x.params (s.1,askC s.2 (decide ((x.params.length:Int)<=4)) (x.at_,4))).2.2 =0
 ·rw[if_pos e,if_pos (h1.2▸e)];refine⟨?_,?_⟩
  ·show(zcs x.params _).put _ _=(zcs (x.params.map Va.bare) _).put _ _
   rw[zly,h1.1];rfl
  ·show(zaq _ x.body _).2 =(zaq _ x.body.bare _).2
   rw[h1.1];exact zc3 _ _ _ h1.2
 ·rw[if_neg e,if_neg (h1.2▸e)];exact h1
theorem ziu:∀(xs:List Prc)(s s':Cks),Sm s s'->Sm (zam xs s).1 (zam (xs.map Prc.bare) s').1 /\(zam xs s).2 =(zam (xs.map Prc.bare) s').2
 | [],s,s',h=>⟨h,rfl⟩
 |x::r,s,s',h=>by
  have h1:=zo9 (x:=x) h;rw[List.map_cons];unfold zam;by_cases e:(zbB x.nm.data.toList x.params x.body x.at_ s).2.2 =0
  ·rw[if_pos e,if_pos (h1.2▸e)];exact ziu r _ _ h1
  ·rw[if_neg e,if_neg (h1.2▸e)];exact⟨h1,rfl⟩
theorem znp:∀xs:Exs,okX xs.bare=okX xs
 | .nil =>rfl
 | .cons k nm m args a r=>by simp only[Exs.bare,okX,zbe,znp args,znp r]
theorem zpa:∀xs:Cds,okC xs.bare=okC xs
 | .nil =>rfl
 | .cons k args of_ a r=>by simp only[Cds.bare,okC,zbe,zcc,znp args,zpa of_,zpa r]
theorem zlz:∀xs:Sts,okS xs.bare=okS xs
 | .nil =>rfl
 | .cons k nm args cond body els a r=>by simp only[Sts.bare,okS,zbe,zcc,zbO,znp args,zpa cond,zlz body,zlz els,zlz r]
theorem zof (xs:List Va):okVs (xs.map Va.bare)=okVs xs:=by
 unfold okVs zdn;rw[List.all_map];rfl
theorem zp9 (t:Tre):okTr t.bare=okTr t:=by
 unfold okTr okAs okPs zdo zcR;simp only[Tre.bare,zof,zlz,List.all_map]
 congr 1
 refine List.all_congr rfl λx=>?_;simp only[Function.comp,Prc.bare,zof,zlz]
theorem zpb (t:Tre):(zbw t).2 =(zbw t.bare).2 :=by
 have hf:fewT t.bare=fewT t:=by unfold fewT Tre.bare;simp
 unfold zbw;rw[zp9,hf];by_cases h1:okTr t=true
 ·rw[if_pos h1,if_pos h1];by_cases h2:fewT t=true
  ·rw[if_pos h2,if_pos h2];have hd:Sm (zbd t) (zbd t.bare):=zg3 _ _ _ (zg2 _ _ _ (zf4 _ _ _ ⟨rfl,rfl⟩));obtain⟨h3,h4⟩:=ziu t.procs _ _ hd;show _=(if(zam (t.procs.map Prc.bare) (zbd t.bare)).2 =true then _ else zaq _ t.main.bare _).2
   rw[<-h4];by_cases h5:(zam t.procs (zbd t)).2 =true
   ·rw[if_pos h5,if_pos h5];exact h3.2
   ·rw[if_neg h5,if_neg h5];show _=(zaq (zam (t.procs.map Prc.bare) (zbd t.bare)).1.1 t.main.bare (zam (t.procs.map Prc.bare) (zbd t.bare)).1.2).2
    rw[<-h3.1];exact zc3 _ _ _ h3.2
  ·rw[if_neg h2,if_neg h2]
 ·rw[if_neg h1,if_neg h1]
