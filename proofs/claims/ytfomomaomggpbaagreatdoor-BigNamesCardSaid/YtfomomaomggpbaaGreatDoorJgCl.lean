/-
  Plain laws of names: when nothing is wrong with a tree's names. No program.
-/
import Derived.Test.YtfomomaomggpbaaGreatDoorJnCkF
import Derived.Test.YtfomomaomggpbaaGreatDoorJgBgData
set_option linter.unusedVariables false
set_option linter.unusedSimpArgs false
namespace Go.Proofs.YtfomomaomggpbaaGreatDoor
open Go.RowKit Go.Shelf Go.Maps

theorem askC_ok (st p:Int×Int):askC st true p=st:=rfl
theorem askC_no {st:Int×Int} {is:Bool} {p:Int×Int} (hp:p.2≠0) (h:(askC st is p).2 =0):is=true∧askC st is p=st:=by
 cases is with
 |true=>exact⟨rfl,rfl⟩
 |false=>
  exfalso
  have h:(failC st p).2 =0:=h
  unfold failC at h
  by_cases e:st.2=0
  ·rw[if_pos e]at h
   exact hp h
  ·rw[if_neg e]at h
   exact e h
def isK (kn:Kn) (t:List UInt8) (k:Int):Prop:=∃v,kn t=some (k,v)
theorem useC_no {kn:Kn} {st:Int×Int} {t:List UInt8} {k at_:Int} (h:(useC kn st t k at_).2 =0):isK kn t k∧useC kn st t k at_=st:=by
 unfold useC at h ⊢
 obtain⟨h1,h2⟩:=askC_no (by simp) h
 rw[h2]at h
 obtain⟨h3,h4⟩:=askC_no (by simp) h
 refine⟨?_,h2.trans h4⟩
 simp only[Bool.and_eq_true]at h3
 obtain⟨⟨a,b⟩,hv⟩:=Option.isSome_iff_exists.1 h3.1
 rw[hv]at h1
 have h1:a=k:=by simpa using h1
 exact⟨b,by rw[hv,h1]⟩
theorem useC_ok {kn:Kn} {st:Int×Int} {t:List UInt8} {k at_:Int} (h:isK kn t k) (hk:k≠4):useC kn st t k at_=st:=by
 obtain⟨v,hv⟩:=h
 unfold useC
 rw[hv]
 simp[askC,hk]
def okUX (kn:Kn):Exs→Prop
 | .nil =>True
 | .cons k nm _ args _ r=>(k=2→isK kn nm.data.toList 1)∧(k=3→isK kn nm.data.toList 2)∧okUX kn args∧okUX kn r
theorem exprsC_ok {kn:Kn}:∀(xs:Exs) (st:Int×Int),okUX kn xs→exprsC kn xs st=st
 | .nil,st,_=>rfl
 | .cons k nm n args at_ r,st,h=>by
  obtain⟨h1,h2,h3,h4⟩:=h
  unfold exprsC
  have e:(if k=2 then useC kn st nm.data.toList 1 at_ else if k=3 then useC kn st nm.data.toList 2 at_ else st)=st:=by
   by_cases e2:k=2
   ·rw[if_pos e2,useC_ok (h1 e2) (by decide)]
   ·rw[if_neg e2]
    by_cases e3:k=3
    ·rw[if_pos e3,useC_ok (h2 e3) (by decide)]
    ·rw[if_neg e3]
  rw[e,exprsC_ok args st h3,exprsC_ok r st h4]
theorem exprsC_no {kn:Kn}:∀(xs:Exs) (st:Int×Int),(exprsC kn xs st).2 =0→okUX kn xs∧exprsC kn xs st=st
 | .nil,st,_=>⟨trivial,rfl⟩
 | .cons k nm n args at_ r,st,h=>by
  unfold exprsC at h ⊢
  obtain⟨h4,e4⟩:=exprsC_no r _ h
  rw[e4]at h ⊢
  obtain⟨h3,e3⟩:=exprsC_no args _ h
  rw[e3]at h ⊢
  by_cases e2:k=2
  ·subst e2
   rw[if_pos rfl]at h ⊢
   obtain⟨h1,e1⟩:=useC_no h
   exact⟨⟨fun _=>h1,fun e=>absurd e (by decide),h3,h4⟩,e1⟩
  ·rw[if_neg e2]at h ⊢
   by_cases e3:k=3
   ·subst e3
    rw[if_pos rfl]at h ⊢
    obtain⟨h1,e1⟩:=useC_no h
    exact⟨⟨fun e=>absurd e (by decide),fun _=>h1,h3,h4⟩,e1⟩
   ·rw[if_neg e3]
    exact⟨⟨fun e=>absurd e e2,fun e=>absurd e e3,h3,h4⟩,rfl⟩
def okUC (kn:Kn):Cds→Prop
 | .nil =>True
 | .cons _ args of_ _ r=>okUX kn args∧okUC kn of_∧okUC kn r
theorem condsC_ok {kn:Kn}:∀(xs:Cds) (st:Int×Int),okUC kn xs→condsC kn xs st=st
 | .nil,st,_=>rfl
 | .cons k args of_ at_ r,st,h=>by
  obtain⟨h1,h2,h3⟩:=h
  unfold condsC
  rw[exprsC_ok args st h1,condsC_ok of_ st h2,condsC_ok r st h3]
theorem condsC_no {kn:Kn}:∀(xs:Cds) (st:Int×Int),(condsC kn xs st).2 =0→okUC kn xs∧condsC kn xs st=st
 | .nil,st,_=>⟨trivial,rfl⟩
 | .cons k args of_ at_ r,st,h=>by
  unfold condsC at h ⊢
  obtain⟨h3,e3⟩:=condsC_no r _ h
  rw[e3]at h ⊢
  obtain⟨h2,e2⟩:=condsC_no of_ _ h
  rw[e2]at h ⊢
  obtain⟨h1,e1⟩:=exprsC_no args _ h
  exact⟨⟨h1,h2,h3⟩,e1⟩
def okUH (kn:Kn) (k:Int) (t:List UInt8) (na:Int):Prop:=(k=2∨k=4→isK kn t 1)∧(k=3→isK kn t 2)∧(k=9→kn t=some (3,na))
theorem headC_ok {kn:Kn} {k:Int} {t:List UInt8} {na at_:Int} {st:Int×Int} (h:okUH kn k t na):headC kn k t na at_ st=st:=by
 obtain⟨h1,h2,h3⟩:=h
 unfold headC
 by_cases e1:k=2∨k=4
 ·rw[if_pos e1,useC_ok (h1 e1) (by decide)]
 ·rw[if_neg e1]
  by_cases e2:k=3
  ·rw[if_pos e2,useC_ok (h2 e2) (by decide)]
  ·rw[if_neg e2]
   by_cases e3:k=9
   ·rw[if_pos e3,useC_ok ⟨_,h3 e3⟩ (by decide),h3 e3]
    simp[askC]
   ·rw[if_neg e3]
theorem headC_no {kn:Kn} {k:Int} {t:List UInt8} {na at_:Int} {st:Int×Int} (h:(headC kn k t na at_ st).2 =0):okUH kn k t na∧headC kn k t na at_ st=st:=by
 unfold headC at h ⊢
 by_cases e1:k=2∨k=4
 ·rw[if_pos e1]at h ⊢
  obtain⟨h1,h2⟩:=useC_no h
  exact⟨⟨fun _=>h1,fun e=>by omega,fun e=>by omega⟩,h2⟩
 ·rw[if_neg e1]at h ⊢
  by_cases e2:k=3
  ·rw[if_pos e2]at h ⊢
   obtain⟨h1,h2⟩:=useC_no h
   exact⟨⟨fun e=>absurd e e1,fun _=>h1,fun e=>by omega⟩,h2⟩
  ·rw[if_neg e2]at h ⊢
   by_cases e3:k=9
   ·rw[if_pos e3]at h ⊢
    obtain⟨h1,h2⟩:=askC_no (by simp) h
    rw[h2]at h ⊢
    obtain⟨⟨v,hv⟩,h4⟩:=useC_no h
    rw[hv]at h1
    have h1:v=na:=by simpa using h1
    exact⟨⟨fun e=>absurd e e1,fun e=>absurd e e2,fun _=>by rw[hv,h1]⟩,h4⟩
   ·rw[if_neg e3]
    exact⟨⟨fun e=>absurd e e1,fun e=>absurd e e2,fun e=>absurd e e3⟩,rfl⟩
def okUS (kn:Kn):Sts→Prop
 | .nil =>True
 | .cons k nm args cond body els _ r=>okUH kn k nm.data.toList (args.len:Int)∧okUX kn args∧okUC kn cond∧okUS kn body∧okUS kn els∧okUS kn r
theorem stmtsC_ok {kn:Kn}:∀(xs:Sts) (st:Int×Int),okUS kn xs→stmtsC kn xs st=st
 | .nil,st,_=>rfl
 | .cons k nm args cond body els at_ r,st,h=>by
  obtain⟨h0,h1,h2,h3,h4,h5⟩:=h
  unfold stmtsC
  rw[headC_ok h0,exprsC_ok args st h1,condsC_ok cond st h2,stmtsC_ok body st h3,stmtsC_ok els st h4,stmtsC_ok r st h5]
theorem stmtsC_no {kn:Kn}:∀(xs:Sts) (st:Int×Int),(stmtsC kn xs st).2 =0→okUS kn xs∧stmtsC kn xs st=st
 | .nil,st,_=>⟨trivial,rfl⟩
 | .cons k nm args cond body els at_ r,st,h=>by
  unfold stmtsC at h ⊢
  obtain⟨h5,e5⟩:=stmtsC_no r _ h
  rw[e5]at h ⊢
  obtain⟨h4,e4⟩:=stmtsC_no els _ h
  rw[e4]at h ⊢
  obtain⟨h3,e3⟩:=stmtsC_no body _ h
  rw[e3]at h ⊢
  obtain⟨h2,e2⟩:=condsC_no cond _ h
  rw[e2]at h ⊢
  obtain⟨h1,e1⟩:=exprsC_no args _ h
  rw[e1]at h ⊢
  obtain⟨h0,e0⟩:=headC_no h
  exact⟨⟨h0,h1,h2,h3,h4,h5⟩,e0⟩

def freshL (kn:Kn):List (List UInt8)→Prop
 | []=>True
 |t::r=>kn t=none∧t∉r∧freshL kn r
theorem freshL_iff {kn:Kn}:∀ {l:List (List UInt8)},freshL kn l↔(∀t∈l,kn t=none)∧l.Nodup
 | []=>by simp[freshL]
 |t::r=>by
  unfold freshL
  rw[freshL_iff (l:=r),List.nodup_cons]
  simp only[List.mem_cons,forall_eq_or_imp]
  constructor
  ·rintro⟨a,b,c,d⟩;exact⟨⟨a,c⟩,b,d⟩
  ·rintro⟨⟨a,c⟩,b,d⟩;exact⟨a,b,c,d⟩
def putL (v:Int×Int) (l:List (List UInt8)) (kn:Kn):Kn:=fun y=>if y∈l then some v else kn y
theorem putL_nil (v:Int×Int) (kn:Kn):putL v [] kn=kn:=by funext y;simp[putL]
theorem putL_cons (v:Int×Int) (t:List UInt8) (r:List (List UInt8)) (kn:Kn):putL v r (kn.put t v)=putL v (t::r) kn:=by
 funext y
 unfold putL Kn.put
 by_cases h1:y∈r
 ·simp[h1]
 ·by_cases h2:y=t
  ·simp[h2]
  ·simp[h1,h2]
theorem declC_ok {s:Cks} {t:List UInt8} {at_:Int} {v:Int×Int} (h:s.1 t=none):declC s t at_ v=(s.1.put t v,s.2):=by
 unfold declC declK declE
 rw[h]
 simp[askC]
theorem declC_no {s:Cks} {t:List UInt8} {at_:Int} {v:Int×Int} (h:(declC s t at_ v).2.2 =0):s.1 t=none∧declC s t at_ v=(s.1.put t v,s.2):=by
 have h:(declE s.1 s.2 t at_).2 =0:=h
 unfold declE at h
 have h1:=(askC_no (by simp) h).1
 have h2:s.1 t=none:=by
  cases e:s.1 t with
  |none=>rfl
  |some x=>rw[e]at h1;simp at h1
 exact⟨h2,declC_ok h2⟩
abbrev nmV (xs:List Va):List (List UInt8):=xs.map fun x=>x.nm.data.toList
abbrev nmA (xs:List Arr):List (List UInt8):=xs.map fun x=>x.nm.data.toList
abbrev nmP (xs:List Prc):List (List UInt8):=xs.map fun x=>x.nm.data.toList
theorem fresh_put {kn:Kn} {t:List UInt8} {v:Int×Int} {l:List (List UInt8)} (h:freshL (kn.put t v) l):t∉l∧freshL kn l:=by
 rw[freshL_iff]at h ⊢
 have h1:t∉l:=fun hm=>by have:=h.1 t hm;simp[Kn.put]at this
 refine⟨h1,fun x hx=>?_,h.2⟩
 have:=h.1 x hx
 unfold Kn.put at this
 rw[if_neg (fun e:x=t=>h1 (e▸hx))]at this
 exact this
theorem fresh_put' {kn:Kn} {t:List UInt8} {v:Int×Int} {l:List (List UInt8)} (h1:t∉l) (h:freshL kn l):freshL (kn.put t v) l:=by
 rw[freshL_iff]at h ⊢
 refine⟨fun x hx=>?_,h.2⟩
 unfold Kn.put
 rw[if_neg (fun e:x=t=>h1 (e▸hx))]
 exact h.1 x hx
theorem declVs_ok {v:Int×Int}:∀(xs:List Va) (s:Cks),freshL s.1 (nmV xs)→declVs v xs s=(putL v (nmV xs) s.1,s.2)
 | [],s,_=>by simp[declVs,putL_nil]
 |x::r,s,h=>by
  obtain⟨h1,h2,h3⟩:=h
  unfold declVs
  rw[declC_ok h1,declVs_ok r _ (fresh_put' h2 h3),putL_cons]
  rfl
theorem declVs_no {v:Int×Int}:∀(xs:List Va) (s:Cks),(declVs v xs s).2.2 =0→freshL s.1 (nmV xs)
 | [],s,_=>trivial
 |x::r,s,h=>by
  unfold declVs at h
  have h3:=declVs_no r _ h
  rw[declVs_ok r _ h3]at h
  obtain⟨h1,e1⟩:=declC_no h
  rw[e1]at h3
  have h4:=fresh_put h3
  exact⟨h1,h4.1,h4.2⟩
def sizeOk (xs:List Arr):Prop:=∀x∈xs,1≤x.size∧x.size≤16
theorem declArs_ok:∀(xs:List Arr) (s:Cks),freshL s.1 (nmA xs)→sizeOk xs→declArs xs s=(putL (2,0) (nmA xs) s.1,s.2)
 | [],s,_,_=>by simp[declArs,putL_nil]
 |x::r,s,h,hz=>by
  obtain⟨h1,h2,h3⟩:=h
  have hx:=hz x (by simp)
  unfold declArs declA
  rw[declC_ok h1]
  have e:(decide ((1:Int)≤x.size)&&decide (x.size≤(16:Int)))=true:=by simpa using hx
  rw[e,askC_ok,declArs_ok r _ (fresh_put' h2 h3) (fun y hy=>hz y (by simp[hy])),putL_cons]
  rfl
theorem declArs_no:∀(xs:List Arr) (s:Cks),(declArs xs s).2.2 =0→freshL s.1 (nmA xs)∧sizeOk xs
 | [],s,_=>⟨trivial,fun x hx=>by simp at hx⟩
 |x::r,s,h=>by
  unfold declArs at h
  obtain⟨h3,hz⟩:=declArs_no r _ h
  rw[declArs_ok r _ h3 hz]at h
  unfold declA at h h3
  simp only at h h3
  obtain⟨hq,e0⟩:=askC_no (by simp) h
  rw[e0]at h
  obtain⟨h1,e1⟩:=declC_no h
  rw[e1]at h3
  have h4:=fresh_put h3
  have hq:1≤x.size∧x.size≤16:=by simpa using hq
  exact⟨⟨h1,h4.1,h4.2⟩,fun y hy=>by
   rcases List.mem_cons.1 hy with rfl|hy
   ·exact hq
   ·exact hz y hy⟩
theorem declPrs_ok:∀(xs:List Prc) (s:Cks),freshL s.1 (nmP xs)→declPrs xs s=(putL (4,0) (nmP xs) s.1,s.2)
 | [],s,_=>by simp[declPrs,putL_nil]
 |x::r,s,h=>by
  obtain⟨h1,h2,h3⟩:=h
  unfold declPrs
  rw[declC_ok h1,declPrs_ok r _ (fresh_put' h2 h3),putL_cons]
  rfl
theorem declPrs_no:∀(xs:List Prc) (s:Cks),(declPrs xs s).2.2 =0→freshL s.1 (nmP xs)
 | [],s,_=>trivial
 |x::r,s,h=>by
  unfold declPrs at h
  have h3:=declPrs_no r _ h
  rw[declPrs_ok r _ h3]at h
  obtain⟨h1,e1⟩:=declC_no h
  rw[e1]at h3
  have h4:=fresh_put h3
  exact⟨h1,h4.1,h4.2⟩
theorem delVs_eq:∀(xs:List Va) (kn:Kn) (y:List UInt8),delVs xs kn y=if y∈nmV xs then none else kn y
 | [],kn,y=>by simp[delVs]
 |x::r,kn,y=>by
  unfold delVs
  rw[delVs_eq r]
  unfold Kn.del nmV
  by_cases h1:y∈nmV r
  ·unfold nmV at h1;simp only[List.map_cons,List.mem_cons,h1,or_true,if_true]
  ·unfold nmV at h1
   by_cases h2:y=x.nm.data.toList
   ·simp[h2]
   ·simp only[List.map_cons,List.mem_cons,h1,h2,or_false,if_false]
theorem delVs_put {xs:List Va} {kn:Kn} {v:Int×Int} (h:freshL kn (nmV xs)):delVs xs (putL v (nmV xs) kn)=kn:=by
 funext y
 rw[delVs_eq]
 unfold putL
 by_cases e:y∈nmV xs
 ·rw[if_pos e,(freshL_iff.1 h).1 y e]
 ·rw[if_neg e,if_neg e]
def okP (x:Prc) (kn:Kn):Prop:=x.params.length≤4∧freshL kn (nmV x.params)∧okUS (putL (1,0) (nmV x.params) kn) x.body
theorem procC_ok {x:Prc} {s:Cks} (h:okP x s.1) (he:s.2.2=0):procC x.nm.data.toList x.params x.body x.at_ s=(s.1.put x.nm.data.toList (3,x.params.length),s.2):=by
 obtain⟨h1,h2,h3⟩:=h
 unfold procC
 have e:decide ((x.params.length:Int)≤4)=true:=by simp;omega
 rw[e,askC_ok,declVs_ok _ _ h2]
 simp only
 rw[if_pos he,stmtsC_ok _ _ h3,delVs_put h2]
theorem procC_no {x:Prc} {s:Cks} (h:(procC x.nm.data.toList x.params x.body x.at_ s).2.2 =0):okP x s.1:=by
 unfold procC at h
 simp only at h
 by_cases e:(declVs (1,0) x.params (s.1,askC s.2 (decide ((x.params.length:Int)≤4)) (x.at_,4))).2.2 =0
 ·rw[if_pos e]at h
  have h2:=declVs_no _ _ e
  rw[declVs_ok _ _ h2]at e h
  simp only at e h
  have h1:=(askC_no (by simp) e).1
  have h3:=(stmtsC_no _ _ h).1
  exact⟨by simp at h1;omega,h2,h3⟩
 ·rw[if_neg e]at h
  exact absurd h e
def okPs':List Prc→Kn→Prop
 | [],_=>True
 |x::r,kn=>okP x kn∧okPs' r (kn.put x.nm.data.toList (3,x.params.length))
def putPs:List Prc→Kn→Kn
 | [],kn=>kn
 |x::r,kn=>putPs r (kn.put x.nm.data.toList (3,x.params.length))
theorem procsC_ok:∀(xs:List Prc) (s:Cks),okPs' xs s.1→s.2.2=0→procsC xs s=((putPs xs s.1,s.2),false)
 | [],s,_,_=>rfl
 |x::r,s,h,he=>by
  unfold procsC
  rw[procC_ok h.1 he,if_pos he,procsC_ok r (s.1.put x.nm.data.toList (3,x.params.length),s.2) h.2 he]
  rfl
theorem procsC_no:∀(xs:List Prc) (s:Cks),(procsC xs s).1.2.2 =0→s.2.2=0→okPs' xs s.1
 | [],s,_,_=>trivial
 |x::r,s,h,he=>by
  unfold procsC at h
  by_cases e:(procC x.nm.data.toList x.params x.body x.at_ s).2.2 =0
  ·have h1:=procC_no e
   rw[procC_ok h1 he]at h
   rw[if_pos he]at h
   exact⟨h1,procsC_no r _ h he⟩
  ·rw[if_neg e]at h
   exact absurd h e
theorem procsC_err:∀(xs:List Prc) (s:Cks),(procsC xs s).2 =true→(procsC xs s).1.2.2 ≠0
 | [],s,h=>by simp[procsC]at h
 |x::r,s,h=>by
  unfold procsC at h ⊢
  by_cases e:(procC x.nm.data.toList x.params x.body x.at_ s).2.2 =0
  ·rw[if_pos e]at h ⊢
   exact procsC_err r _ h
  ·rw[if_neg e]
   exact e
theorem failC_stays {st p:Int×Int} (h:st.2≠0):failC st p=st:=by unfold failC;rw[if_neg h]
theorem askC_stays {st p:Int×Int} {is:Bool} (h:st.2≠0):askC st is p=st:=by cases is<;>simp[askC,failC_stays h]
theorem procC_stays {nm:List UInt8} {ps:List Va} {body:Sts} {at_:Int} {s:Cks} (h:s.2.2≠0):(procC nm ps body at_ s).2.2 ≠0:=by
 have hd:∀(xs:List Va) (s:Cks),s.2.2≠0→(declVs (1,0) xs s).2.2 ≠0:=by
  intro xs
  induction xs with
  |nil=>exact fun s h=>h
  |cons x r ih=>
   intro s h
   unfold declVs
   refine ih _ ?_
   show(declE s.1 s.2 _ _).2 ≠0
   unfold declE
   rw[askC_stays h]
   exact h
 unfold procC
 simp only
 have h2:=hd ps (s.1,askC s.2 (decide ((ps.length:Int)≤4)) (at_,4)) (by rw[askC_stays h];exact h)
 rw[if_neg h2]
 exact h2
def knT (t:Tre):Kn:=putL (4,0) (nmP t.procs) (putL (2,0) (nmA t.arrays) (putL (1,0) (nmV t.vars) fun _=>none))
structure OkT (t:Tre):Prop where
 tree:okTr t=true
 few:fewT t=true
 vars:freshL (fun _=>none) (nmV t.vars)
 arrays:freshL (putL (1,0) (nmV t.vars) fun _=>none) (nmA t.arrays)
 sizes:sizeOk t.arrays
 procs:freshL (putL (2,0) (nmA t.arrays) (putL (1,0) (nmV t.vars) fun _=>none)) (nmP t.procs)
 each:okPs' t.procs (knT t)
 main:okUS (putPs t.procs (knT t)) t.main
theorem declT_ok {t:Tre} (h1:freshL (fun _=>none) (nmV t.vars)) (h2:freshL (putL (1,0) (nmV t.vars) fun _=>none) (nmA t.arrays)) (h3:sizeOk t.arrays) (h4:freshL (putL (2,0) (nmA t.arrays) (putL (1,0) (nmV t.vars) fun _=>none)) (nmP t.procs)):
  declT t=(knT t,(0,0)):=by
 unfold declT
 rw[declVs_ok _ _ h1,declArs_ok _ _ h2 h3,declPrs_ok _ _ h4]
 rfl
theorem treeC_no {t:Tre} (h:(treeC t).2 =0):OkT t:=by
 unfold treeC at h
 by_cases h1:okTr t=true
 rotate_left
 ·rw[if_neg h1]at h;exact absurd h (by decide)
 rw[if_pos h1]at h
 by_cases h2:fewT t=true
 rotate_left
 ·rw[if_neg h2]at h;exact absurd h (by decide)
 rw[if_pos h2]at h
 have h3:(procsC t.procs (declT t)).2 =false:=by
  cases e:(procsC t.procs (declT t)).2 with
  |false=>rfl
  |true=>
   rw[e,if_pos rfl]at h
   exact absurd h (procsC_err _ _ e)
 rw[h3]at h
 simp only[Bool.false_eq_true,if_false]at h
 obtain⟨h4,e4⟩:=stmtsC_no _ _ h
 rw[e4]at h
 have h5:(declT t).2.2 =0:=by
  by_cases e:(declT t).2.2 =0
  ·exact e
  exfalso
  cases hp:t.procs with
  |nil=>rw[hp]at h;exact e h
  |cons x r=>
   rw[hp]at h3
   unfold procsC at h3
   rw[if_neg (procC_stays e)]at h3
   exact absurd h3 (by simp)
 have hd:=h5
 unfold declT at hd
 have q3:=declPrs_no _ _ hd
 rw[declPrs_ok _ _ q3]at hd
 obtain⟨q2,q4⟩:=declArs_no _ _ hd
 rw[declArs_ok _ _ q2 q4]at hd q3
 have q1:=declVs_no _ _ hd
 rw[declVs_ok _ _ q1]at q2 q3
 have hdt:=declT_ok q1 q2 q4 q3
 rw[hdt]at h h4
 have h6:=procsC_no _ _ h rfl
 rw[procsC_ok _ _ h6 rfl]at h4
 exact⟨h1,h2,q1,q2,q4,q3,h6,h4⟩

theorem fewT_iff {t:Tre}:fewT t=true↔t.vars.length≤12∧t.arrays.length≤4∧t.procs.length≤8:=by
 unfold fewT
 simp only[Bool.and_eq_true,decide_eq_true_eq]
 omega

def procsOf:List Prc→List UInt8→Option Prc
 | [],_=>none
 |x::r,y=>match procsOf r y with
  |some z=>some z
  |none=>if y=x.nm.data.toList then some x else none
theorem procsOf_none:∀ {xs:List Prc} {y:List UInt8},y∉nmP xs→procsOf xs y=none
 | [],_,_=>rfl
 |x::r,y,h=>by
  simp only[nmP,List.map_cons,List.mem_cons,not_or]at h
  unfold procsOf
  rw[procsOf_none h.2,if_neg h.1]
theorem procsOf_mem:∀ {xs:List Prc},(nmP xs).Nodup →∀ {x:Prc},x∈xs→procsOf xs x.nm.data.toList=some x
 | [],_,_,h=>by simp at h
 |p::r,hn,x,h=>by
  have hn:=List.nodup_cons.1 hn
  unfold procsOf
  rcases List.mem_cons.1 h with rfl|h
  ·rw[procsOf_none hn.1,if_pos rfl]
  ·rw[procsOf_mem hn.2 h]

open Go.RowKit

def bnOf (t:Tre):Bn:=⟨t.vars.map (·.nm.data.toList),t.arrays.map (·.nm.data.toList),procsOf t.procs⟩
end Go.Proofs.YtfomomaomggpbaaGreatDoor
