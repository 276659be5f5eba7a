/-
  Plain law: what ref11 says of expressions is what check says. No program.
-/
import Derived.Test.YtmopichdofgndaaGreatDoorJnCl
import Derived.Test.YtmopichdofgndaaGreatDoorJnRtP
set_option linter.unusedVariables false
set_option linter.unusedSimpArgs false
namespace Go.Proofs.YtmopichdofgndaaGreatDoor
open Go.RowKit Go.Shelf

def KnW (kn:Kn) (ws:Wl):Prop:=∀nm:ByteArray,match fdW nm ws with
 |none=>kn nm.data.toList=none∨∃v,kn nm.data.toList=some (4,v)
 |some v=>kn nm.data.toList=some v∧v.1≠4
theorem useC_is {kn:Kn} {ws:Wl} (h:KnW kn ws) (nm:ByteArray) (k at_:Int):useC kn (0,0) nm.data.toList k at_=if isI nm k ws=0 then(0,0)else(at_,isI nm k ws):=by
 have h1:=h nm
 unfold useC isI
 cases hf:fdW nm ws with
 |none=>
  rw[hf]at h1
  rcases h1 with e|⟨v,e⟩
  ·simp only[e]
   simp[askC,failC]
  ·simp only[e]
   simp[askC,failC]
 |some v=>
  rw[hf]at h1
  simp only[h1.1]
  by_cases hk:v.1=k
  ·simp[askC,failC,hk,h1.2]
   rw[←hk];exact h1.2
  ·simp[askC,failC,hk,h1.2]
theorem useC_stays {kn:Kn} {st:Int×Int} {t:List UInt8} {k at_:Int} (h:st.2≠0):useC kn st t k at_=st:=by
 unfold useC
 rw[askC_stays h,askC_stays h]
theorem exprsC_stays {kn:Kn}:∀(xs:Exs) (st:Int×Int),st.2≠0→exprsC kn xs st=st
 | .nil,st,_=>rfl
 | .cons k nm n args at_ r,st,h=>by
  unfold exprsC
  have e:(if k=2 then useC kn st nm.data.toList 1 at_ else if k=3 then useC kn st nm.data.toList 2 at_ else st)=st:=by
   by_cases e2:k=2
   ·rw[if_pos e2,useC_stays h]
   ·rw[if_neg e2]
    by_cases e3:k=3
    ·rw[if_pos e3,useC_stays h]
    ·rw[if_neg e3]
  rw[e,exprsC_stays args st h,exprsC_stays r st h]
theorem exI_is {kn:Kn} {ws:Wl} (h:KnW kn ws) (k:Int) (nm:ByteArray) (args:Exs) (at_:Int) (hv:k=2→args= .nil) (ha:exprsC kn args (0,0)=if(exsI ws args).2 =0 then(0,0)else exsI ws args):
  exprsC kn args (if k=2 then useC kn (0,0) nm.data.toList 1 at_ else if k=3 then useC kn (0,0) nm.data.toList 2 at_ else(0,0))=if(exI ws k nm args at_).2 =0 then(0,0)else exI ws k nm args at_:=by
 unfold exI
 by_cases e2:k=2
 ·rw[if_pos e2,if_pos e2,useC_is h,hv e2]
  rfl
 ·rw[if_neg e2,if_neg e2]
  by_cases e3:k=3
  ·rw[if_pos e3,useC_is h]
   by_cases e:isI nm 2 ws=0
   ·have q:¬(k=3∧isI nm 2 ws≠0):=fun h=>h.2 e
    rw[if_pos e]
    simp only[if_neg q]
    exact ha
   ·have q:k=3∧isI nm 2 ws≠0:=⟨e3,e⟩
    rw[if_neg e]
    simp only[if_pos q]
    rw[exprsC_stays _ _ e,if_neg e]
  ·have q:¬(k=3∧isI nm 2 ws≠0):=fun h=>e3 h.1
   rw[if_neg e3]
   simp only[if_neg q]
   exact ha
theorem okX_var {k:Int} {nm:ByteArray} {n:Int} {args:Exs} {at_:Int} {r:Exs} (h:okX (.cons k nm n args at_ r)=true):(k=2→args= .nil)∧okX args=true∧okX r=true:=by
 unfold okX at h
 simp only[Bool.and_eq_true]at h
 obtain⟨⟨⟨_,h1⟩,h2⟩,h3⟩:=h
 refine⟨fun e=>?_,h2,h3⟩
 subst e
 cases args with
 |nil=>rfl
 |cons a b c d e f=>
  exfalso
  have h1:(((Exs.cons a b c d e f).len :Int)==0)=true:=h1
  simp only[Exs.len,beq_iff_eq]at h1
  omega
theorem exprsC_is {kn:Kn} {ws:Wl} (h:KnW kn ws):∀xs:Exs,okX xs=true→exprsC kn xs (0,0)=if(exsI ws xs).2 =0 then(0,0)else exsI ws xs
 | .nil,_=>rfl
 | .cons k nm n args at_ r,ho=>by
  obtain⟨o1,o2,o3⟩:=okX_var ho
  have hr:=exprsC_is h r o3
  have hP:=exI_is h k nm args at_ o1 (exprsC_is h args o2)
  have e1:exprsC kn (.cons k nm n args at_ r) (0,0)=exprsC kn r (exprsC kn args (if k=2 then useC kn (0,0) nm.data.toList 1 at_ else if k=3 then useC kn (0,0) nm.data.toList 2 at_ else(0,0))):=rfl
  have e2:exsI ws (.cons k nm n args at_ r)=if(exI ws k nm args at_).2 =0 then exsI ws r else exI ws k nm args at_:=rfl
  rw[e1,e2,hP]
  by_cases e:(exI ws k nm args at_).2 =0
  ·rw[if_pos e,if_pos e,hr]
  ·rw[if_neg e,if_neg e,exprsC_stays _ _ e,if_neg e]
theorem condsC_stays {kn:Kn}:∀(xs:Cds) (st:Int×Int),st.2≠0→condsC kn xs st=st
 | .nil,st,_=>rfl
 | .cons k args of_ at_ r,st,h=>by
  unfold condsC
  rw[exprsC_stays args st h,condsC_stays of_ st h,condsC_stays r st h]
theorem condsC_is {kn:Kn} {ws:Wl} (h:KnW kn ws):∀xs:Cds,okC xs=true→condsC kn xs (0,0)=if(cdsI ws xs).2 =0 then(0,0)else cdsI ws xs
 | .nil,_=>rfl
 | .cons k args of_ at_ r,ho=>by
  have ho':=ho
  unfold okC at ho'
  simp only[Bool.and_eq_true]at ho'
  obtain⟨⟨⟨_,o1⟩,o2⟩,o3⟩:=ho'
  have h1:=exprsC_is h args o1
  have h2:=condsC_is h of_ o2
  have h3:=condsC_is h r o3
  have e1:condsC kn (.cons k args of_ at_ r) (0,0)=condsC kn r (condsC kn of_ (exprsC kn args (0,0))):=rfl
  have e2:cdsI ws (.cons k args of_ at_ r)=if(exsI ws args).2 =0 then(if(cdsI ws of_).2 =0 then cdsI ws r else cdsI ws of_)else exsI ws args:=rfl
  rw[e1,e2,h1]
  by_cases e:(exsI ws args).2 =0
  ·rw[if_pos e,if_pos e,h2]
   by_cases e':(cdsI ws of_).2 =0
   ·rw[if_pos e',if_pos e',h3]
   ·rw[if_neg e',if_neg e',condsC_stays _ _ e',if_neg e']
  ·rw[if_neg e,if_neg e,condsC_stays _ _ e,condsC_stays _ _ e,if_neg e]
theorem mn_is {kn:Kn} {ws:Wl} (h:KnW kn ws) (nm:ByteArray) (hi:isI nm 3 ws=0):((kn nm.data.toList).getD (0,0)).2 =mnI nm ws:=by
 have h1:=h nm
 unfold isI at hi
 unfold mnI
 cases hf:fdW nm ws with
 |none=>rw[hf]at hi;exact absurd hi (by decide)
 |some v=>
  rw[hf]at h1
  rw[h1.1]
theorem headC_is {kn:Kn} {ws:Wl} (h:KnW kn ws) (k:Int) (nm:ByteArray) (na at_:Int):headC kn k nm.data.toList na at_ (0,0)=if nmdI ws k nm na=0 then(0,0)else(at_,nmdI ws k nm na):=by
 unfold headC nmdI
 by_cases e1:k=2∨k=4
 ·simp only[if_pos e1]
  exact useC_is h nm 1 at_
 ·simp only[if_neg e1]
  by_cases e2:k=3
  ·simp only[if_pos e2]
   exact useC_is h nm 2 at_
  ·simp only[if_neg e2]
   by_cases e3:k=9
   ·simp only[if_pos e3]
    rw[useC_is h]
    by_cases e:isI nm 3 ws=0
    ·rw[if_pos e,mn_is h nm e]
     by_cases e':mnI nm ws=na
     ·have q:¬(isI nm 3 ws=0∧mnI nm ws≠na):=fun h=>h.2 e'
      simp only[if_neg q]
      rw[if_pos e]
      simp[askC,e']
     ·have q:isI nm 3 ws=0∧mnI nm ws≠na:=⟨e,e'⟩
      simp only[if_pos q]
      simp[askC,failC,e']
    ·have q:¬(isI nm 3 ws=0∧mnI nm ws≠na):=fun h=>e h.1
     simp only[if_neg q]
     rw[if_neg e,askC_stays e]
   ·simp only[if_neg e3]
    rfl
theorem chain_is {f:Int×Int→Int×Int} {p q:Int×Int} (hst:∀st,st.2≠0→f st=st) (h0:f (0,0)=if q.2=0 then(0,0)else q):f (if p.2=0 then(0,0)else p)=if(orI p q).2 =0 then(0,0)else orI p q:=by
 by_cases e:p.2=0
 ·rw[if_pos e,orI_ok e,h0]
 ·rw[if_neg e,orI_no e,hst p e,if_neg e]
theorem headC_stays {kn:Kn} {k:Int} {t:List UInt8} {na at_:Int} {st:Int×Int} (h:st.2≠0):headC kn k t na at_ st=st:=by
 unfold headC
 by_cases e1:k=2∨k=4
 ·rw[if_pos e1,useC_stays h]
 ·rw[if_neg e1]
  by_cases e2:k=3
  ·rw[if_pos e2,useC_stays h]
  ·rw[if_neg e2]
   by_cases e3:k=9
   ·rw[if_pos e3,useC_stays h,askC_stays h]
   ·rw[if_neg e3]
theorem stmtsC_stays {kn:Kn}:∀(xs:Sts) (st:Int×Int),st.2≠0→stmtsC kn xs st=st
 | .nil,st,_=>rfl
 | .cons k nm args cond body els at_ r,st,h=>by
  unfold stmtsC
  rw[headC_stays h,exprsC_stays args st h,condsC_stays cond st h,stmtsC_stays body st h,stmtsC_stays els st h,stmtsC_stays r st h]
theorem stmtsC_is {kn:Kn} {ws:Wl} (h:KnW kn ws):∀xs:Sts,okS xs=true→stmtsC kn xs (0,0)=if(stsI ws xs).2 =0 then(0,0)else stsI ws xs
 | .nil,_=>rfl
 | .cons k nm args cond body els at_ r,ho=>by
  have ho':=ho
  unfold okS at ho'
  simp only[Bool.and_eq_true]at ho'
  obtain⟨⟨⟨⟨⟨_,o1⟩,o2⟩,o3⟩,o4⟩,o5⟩:=ho'
  have h1:=exprsC_is h args o1
  have h2:=condsC_is h cond o2
  have h3:=stmtsC_is h body o3
  have h4:=stmtsC_is h els o4
  have h5:=stmtsC_is h r o5
  have e1:stmtsC kn (.cons k nm args cond body els at_ r) (0,0)=stmtsC kn r (stmtsC kn els (stmtsC kn body (condsC kn cond (exprsC kn args (headC kn k nm.data.toList (args.len:Int) at_ (0,0)))))):=rfl
  have e2:stsI ws (.cons k nm args cond body els at_ r)=if nmdI ws k nm (args.len:Int)=0 then(if(orI (orI (orI (exsI ws args) (cdsI ws cond)) (stsI ws body)) (stsI ws els)).2 =0 then stsI ws r else orI (orI (orI (exsI ws args) (cdsI ws cond)) (stsI ws body)) (stsI ws els))else(at_,nmdI ws k nm (args.len:Int)):=rfl
  rw[e1,e2,headC_is h]
  by_cases e:nmdI ws k nm (args.len:Int)=0
  ·rw[if_pos e,if_pos e,h1,chain_is (f:=condsC kn cond) (condsC_stays cond) h2,chain_is (f:=stmtsC kn body) (stmtsC_stays body) h3,chain_is (f:=stmtsC kn els) (stmtsC_stays els) h4,chain_is (f:=stmtsC kn r) (stmtsC_stays r) h5]
   rfl
  ·rw[if_neg e,if_neg e,exprsC_stays args _ e,condsC_stays cond _ e,stmtsC_stays body _ e,stmtsC_stays els _ e,stmtsC_stays r _ e,if_neg e]

theorem stsI_zero {ws:Wl}:∀xs:Sts,(stsI ws xs).2 =0→stsI ws xs=(0,0)
 | .nil,_=>rfl
 | .cons k nm args cond body els at_ r,h=>by
  have e2:stsI ws (.cons k nm args cond body els at_ r)=if nmdI ws k nm (args.len:Int)=0 then(if(orI (orI (orI (exsI ws args) (cdsI ws cond)) (stsI ws body)) (stsI ws els)).2 =0 then stsI ws r else orI (orI (orI (exsI ws args) (cdsI ws cond)) (stsI ws body)) (stsI ws els))else(at_,nmdI ws k nm (args.len:Int)):=rfl
  rw[e2]at h ⊢
  by_cases e:nmdI ws k nm (args.len:Int)=0
  ·rw[if_pos e]at h ⊢
   by_cases e':(orI (orI (orI (exsI ws args) (cdsI ws cond)) (stsI ws body)) (stsI ws els)).2 =0
   ·rw[if_pos e']at h ⊢;exact stsI_zero r h
   ·rw[if_neg e']at h;exact absurd h e'
  ·rw[if_neg e]at h;exact absurd h e
theorem stmtsC_is2 {kn:Kn} {ws:Wl} (h:KnW kn ws) (xs:Sts) (ho:okS xs=true):stmtsC kn xs (0,0)=stsI ws xs:=by
 rw[stmtsC_is h xs ho]
 by_cases e:(stsI ws xs).2 =0
 ·rw[if_pos e,stsI_zero xs e]
 ·rw[if_neg e]
theorem at_none {nm:ByteArray} {ws:Wl}:(0≤atI nm ws 0)↔(fdW nm ws).isSome =true:=by
 rcases at_split nm ws 0 with⟨h1,h2⟩|⟨i,x,h1,h2,h3⟩
 ·rw[h1,h2];simp
 ·rw[h1,h3];simp
theorem fdW_app (nm:ByteArray):∀(ws us:Wl),fdW nm (ws++us)=match fdW nm ws with|some v=>some v|none=>fdW nm us
 | [],us=>rfl
 |x::r,us=>by
  show(if x.1.toList==nm.toList then some x.2 else fdW nm (r++us))=match (if x.1.toList==nm.toList then some x.2 else fdW nm r)with|some v=>some v|none=>fdW nm us
  by_cases h:(x.1.toList==nm.toList)=true
  ·rw[if_pos h,if_pos h]
  ·rw[if_neg h,if_neg h];exact fdW_app nm r us
theorem fdW_one (nm a:ByteArray) (v:Int×Int):fdW nm [(a,v)]=if nm.data.toList=a.data.toList then some v else none:=by
 show(if a.toList==nm.toList then some v else none)=_
 by_cases h:nm.data.toList=a.data.toList
 ·rw[if_pos h,if_pos]
  simp only[beq_iff_eq,ByteArray.toList_eq];exact h.symm
 ·rw[if_neg h,if_neg]
  simp only[beq_iff_eq,ByteArray.toList_eq];exact fun e=>h e.symm
def KnD (kn:Kn) (ws:Wl):Prop:=∀nm:ByteArray,kn nm.data.toList=(fdW nm ws).map fun v=>if v.1=3 then(4,0)else v
theorem KnD.some {kn:Kn} {ws:Wl} (h:KnD kn ws) (nm:ByteArray):(kn nm.data.toList).isSome =(fdW nm ws).isSome :=by rw[h nm,Option.isSome_map]
theorem KnD.put {kn:Kn} {ws:Wl} (h:KnD kn ws) {a:ByteArray} (ha:(fdW a ws).isSome =false) (v:Int×Int):KnD (kn.put a.data.toList (if v.1=3 then(4,0)else v)) (ws++ [(a,v)]):=by
 intro nm
 unfold Kn.put
 rw[fdW_app,fdW_one]
 by_cases e:nm.data.toList=a.data.toList
 ·rw[if_pos e,if_pos e]
  have h1:=h.some nm
  rw[e,h.some a,ha]at h1
  have h2:fdW nm ws=none:=by
   cases e2:fdW nm ws with
   |none=>rfl
   |some x=>rw[e2]at h1;exact absurd h1 (by simp)
  rw[h2]
  rfl
 ·rw[if_neg e,if_neg e,h nm]
  cases fdW nm ws<;>rfl
theorem declC_new {s:Cks} {ws:Wl} (h:KnD s.1 ws) {a:ByteArray} {at_:Int} {v:Int×Int} (ha:¬0≤atI a ws 0):declC s a.data.toList at_ v=(s.1.put a.data.toList v,s.2):=by
 refine declC_ok ?_
 have h1:=h.some a
 rw[at_none]at ha
 cases e:s.1 a.data.toList with
 |none=>rfl
 |some x=>rw[e]at h1;exact absurd h1.symm ha
theorem declC_old {s:Cks} {ws:Wl} (h:KnD s.1 ws) (he:s.2=(0,0)) {a:ByteArray} {at_:Int} {v:Int×Int} (ha:0≤atI a ws 0):(declC s a.data.toList at_ v).2 =(at_,111):=by
 show declE s.1 s.2 a.data.toList at_=_
 unfold declE
 rw[h.some a,at_none.1 ha,he]
 rfl
theorem declC_err {s:Cks} (h:s.2.2≠0) {t:List UInt8} {at_:Int} {v:Int×Int}:(declC s t at_ v).2 =s.2:=by
 show declE s.1 s.2 t at_=_
 unfold declE
 rw[askC_stays h]
theorem declVs_err {v:Int×Int}:∀(xs:List Va) (s:Cks),s.2.2≠0→(declVs v xs s).2 =s.2
 | [],s,_=>rfl
 |x::r,s,h=>by
  have h1:=declC_err h (t:=x.nm.data.toList) (at_:=x.at_) (v:=v)
  unfold declVs
  rw[declVs_err r _ (by rw[h1];exact h),h1]
theorem declArs_err:∀(xs:List Arr) (s:Cks),s.2.2≠0→(declArs xs s).2 =s.2
 | [],s,_=>rfl
 |x::r,s,h=>by
  have h1:=declC_err h (t:=x.nm.data.toList) (at_:=x.at_) (v:=(2,0))
  have h2:(declA s x).2 =s.2:=by
   unfold declA
   simp only
   rw[h1,askC_stays h]
  unfold declArs
  rw[declArs_err r _ (by rw[h2];exact h),h2]
theorem declPrs_err:∀(xs:List Prc) (s:Cks),s.2.2≠0→(declPrs xs s).2 =s.2
 | [],s,_=>rfl
 |x::r,s,h=>by
  have h1:=declC_err h (t:=x.nm.data.toList) (at_:=x.at_) (v:=(4,0))
  unfold declPrs
  rw[declPrs_err r _ (by rw[h1];exact h),h1]
structure DecR (s:Cks) (q:Wl×(Int×Int)):Prop where
 ok:q.2.2=0→s.2=(0,0)∧KnD s.1 q.1
 no:q.2.2≠0→s.2=q.2
theorem declVs_is:∀(xs:List Va) (s:Cks) (ws:Wl),s.2=(0,0)→KnD s.1 ws→DecR (declVs (1,0) xs s) (rdV xs ws)
 | [],s,ws,he,h=>⟨fun _=>⟨he,h⟩,fun e=>absurd rfl e⟩
 |x::r,s,ws,he,h=>by
  unfold declVs rdV
  by_cases ha:0≤atI x.nm ws 0
  ·rw[if_pos ha]
   have h1:=declC_old h he (at_:=x.at_) (v:=(1,0)) ha
   exact⟨fun e=>absurd e (by simp),fun _=>by rw[declVs_err r _ (by rw[h1];simp),h1]⟩
  ·rw[if_neg ha,declC_new h ha]
   exact declVs_is r _ _ he (h.put (by simpa[at_none]using ha) (1,0))
theorem declArs_is:∀(xs:List Arr) (s:Cks) (ws:Wl),s.2=(0,0)→KnD s.1 ws→DecR (declArs xs s) (rdA xs ws)
 | [],s,ws,he,h=>⟨fun _=>⟨he,h⟩,fun e=>absurd rfl e⟩
 |x::r,s,ws,he,h=>by
  unfold declArs rdA
  by_cases ha:0≤atI x.nm ws 0
  ·rw[if_pos ha]
   have h1:=declC_old h he (at_:=x.at_) (v:=(2,0)) ha
   have h2:(declA s x).2 =(x.at_,111):=by
    unfold declA
    simp only
    rw[h1,askC_stays (by simp)]
   exact⟨fun e=>absurd e (by simp),fun _=>by rw[declArs_err r _ (by rw[h2];simp),h2]⟩
  ·rw[if_neg ha]
   have h1:=declC_new h (at_:=x.at_) (v:=(2,0)) ha
   by_cases hz:x.size < 1∨16 < x.size
   ·rw[if_pos hz]
    have h2:(declA s x).2 =(x.at_,113):=by
     unfold declA
     simp only
     rw[h1,he]
     have e:(decide ((1:Int)≤x.size)&&decide (x.size≤(16:Int)))=false:=by
      rw[Bool.and_eq_false_iff];simp only[decide_eq_false_iff_not];omega
     rw[e]
     rfl
    exact⟨fun e=>absurd e (by simp),fun _=>by rw[declArs_err r _ (by rw[h2];simp),h2]⟩
   ·rw[if_neg hz]
    have h2:declA s x=(s.1.put x.nm.data.toList (2,0),s.2):=by
     unfold declA
     rw[h1]
     have e:(decide ((1:Int)≤x.size)&&decide (x.size≤(16:Int)))=true:=by
      simp only[Bool.and_eq_true,decide_eq_true_eq];omega
     rw[e]
     rfl
    rw[h2]
    exact declArs_is r _ _ he (h.put (by simpa[at_none]using ha) (2,0))
theorem declPrs_is:∀(xs:List Prc) (s:Cks) (ws:Wl),s.2=(0,0)→KnD s.1 ws→DecR (declPrs xs s) (rdP xs ws)
 | [],s,ws,he,h=>⟨fun _=>⟨he,h⟩,fun e=>absurd rfl e⟩
 |x::r,s,ws,he,h=>by
  unfold declPrs rdP
  by_cases ha:0≤atI x.nm ws 0
  ·rw[if_pos ha]
   have h1:=declC_old h he (at_:=x.at_) (v:=(4,0)) ha
   exact⟨fun e=>absurd e (by simp),fun _=>by rw[declPrs_err r _ (by rw[h1];simp),h1]⟩
  ·rw[if_neg ha,declC_new h ha]
   exact declPrs_is r _ _ he (h.put (by simpa[at_none]using ha) (3,(x.params.length:Int)))
theorem declT_is (t:Tre):DecR (declT t) (rdT t):=by
 have h1:=declVs_is t.vars (fun _=>none,(0,0)) [] rfl fun nm=>rfl
 unfold declT rdT
 by_cases e1:(rdV t.vars []).2.2 =0
 ·rw[if_pos e1]
  obtain⟨g1,g2⟩:=h1.ok e1
  have h2:=declArs_is t.arrays _ _ g1 g2
  by_cases e2:(rdA t.arrays (rdV t.vars []).1).2.2 =0
  ·rw[if_pos e2]
   obtain⟨g3,g4⟩:=h2.ok e2
   exact declPrs_is t.procs _ _ g3 g4
  ·rw[if_neg e2]
   have h3:=h2.no e2
   exact⟨fun e=>absurd e e2,fun _=>by rw[declPrs_err _ _ (by rw[h3];exact e2),h3]⟩
 ·rw[if_neg e1]
  have h3:=h1.no e1
  have h4:=declArs_err t.arrays (declVs (1,0) t.vars (fun _=>none,(0,0))) (by rw[h3];exact e1)
  exact⟨fun e=>absurd e e1,fun _=>by rw[declPrs_err _ _ (by rw[h4,h3];exact e1),h4,h3]⟩
def Apt (ws:Wl):Prop:=∀i x,ws[i]?=some x→(fdW x.1 (ws.take i)).isSome =false
theorem Apt.snoc {ws:Wl} (h:Apt ws) {x:ByteArray×Int×Int} (hx:¬0≤atI x.1 ws 0):Apt (ws++ [x]):=by
 intro i y hy
 rcases Nat.lt_trichotomy i ws.length with hlt|heq|hgt
 ·rw[List.getElem?_append_left hlt]at hy
  rw[List.take_append_of_le_length (by omega)]
  exact h i y hy
 ·subst heq
  simp at hy
  subst hy
  rw[List.take_append_of_le_length (lrq _),List.take_length]
  simpa[at_none]using hx
 ·rw[List.getElem?_eq_none (by simp;omega)]at hy
  simp at hy
theorem rdV_rows:∀(xs:List Va) (ws:Wl),Apt ws→(rdV xs ws).2.2 =0→Apt (rdV xs ws).1 ∧(rdV xs ws).1 =ws++xs.map fun x=>(x.nm,1,0)
 | [],ws,h,_=>⟨h,by simp[rdV]⟩
 |x::r,ws,h,he=>by
  unfold rdV at he ⊢
  by_cases ha:0≤atI x.nm ws 0
  ·rw[if_pos ha]at he;exact absurd he (by simp)
  ·rw[if_neg ha]at he ⊢
   obtain⟨h1,h2⟩:=rdV_rows r _ (h.snoc (x:=(x.nm,1,0)) ha) he
   exact⟨h1,by rw[h2];simp⟩
theorem rdA_rows:∀(xs:List Arr) (ws:Wl),Apt ws→(rdA xs ws).2.2 =0→Apt (rdA xs ws).1 ∧(rdA xs ws).1 =ws++xs.map fun x=>(x.nm,2,0)
 | [],ws,h,_=>⟨h,by simp[rdA]⟩
 |x::r,ws,h,he=>by
  unfold rdA at he ⊢
  by_cases ha:0≤atI x.nm ws 0
  ·rw[if_pos ha]at he;exact absurd he (by simp)
  ·rw[if_neg ha]at he ⊢
   by_cases hz:x.size < 1∨16 < x.size
   ·rw[if_pos hz]at he;exact absurd he (by simp)
   ·rw[if_neg hz]at he ⊢
    obtain⟨h1,h2⟩:=rdA_rows r _ (h.snoc (x:=(x.nm,2,0)) ha) he
    exact⟨h1,by rw[h2];simp⟩
theorem rdP_rows:∀(xs:List Prc) (ws:Wl),Apt ws→(rdP xs ws).2.2 =0→Apt (rdP xs ws).1 ∧(rdP xs ws).1 =ws++xs.map fun x=>(x.nm,3,(x.params.length:Int))
 | [],ws,h,_=>⟨h,by simp[rdP]⟩
 |x::r,ws,h,he=>by
  unfold rdP at he ⊢
  by_cases ha:0≤atI x.nm ws 0
  ·rw[if_pos ha]at he;exact absurd he (by simp)
  ·rw[if_neg ha]at he ⊢
   obtain⟨h1,h2⟩:=rdP_rows r _ (h.snoc (x:=(x.nm,3,(x.params.length:Int))) ha) he
   exact⟨h1,by rw[h2];simp⟩
def wsA (t:Tre):Wl:=(t.vars.map fun x=>(x.nm,1,0))++(t.arrays.map fun x=>(x.nm,2,0))
def wsP (ps:List Prc):Wl:=ps.map fun x=>(x.nm,3,(x.params.length:Int))
theorem rdT_rows {t:Tre} (he:(rdT t).2.2 =0):Apt (rdT t).1 ∧(rdT t).1 =wsA t++wsP t.procs:=by
 unfold rdT at he ⊢
 by_cases e1:(rdV t.vars []).2.2 =0
 ·rw[if_pos e1]at he ⊢
  obtain⟨g1,g2⟩:=rdV_rows t.vars [] (fun i x h=>by simp at h) e1
  by_cases e2:(rdA t.arrays (rdV t.vars []).1).2.2 =0
  ·rw[if_pos e2]at he ⊢
   obtain⟨g3,g4⟩:=rdA_rows t.arrays _ g1 e2
   obtain⟨g5,g6⟩:=rdP_rows t.procs _ g3 he
   exact⟨g5,by rw[g6,g4,g2];simp[wsA,wsP]⟩
  ·rw[if_neg e2]at he;exact absurd he e2
 ·rw[if_neg e1]at he;exact absurd he e1
theorem upI_all (lim:Int):∀(ws:Wl) (k:Nat),(∀i x,ws[i]?=some x→x.2.1≠3∨((k+i:Nat):Int) < lim)→upI lim ws k=ws
 | [],_,_=>rfl
 |x::r,k,h=>by
  rw[upI_cons,if_pos (by have:=h 0 x rfl;simpa using this),upI_all lim r (k+1) fun i y hy=>by have:=h (i+1) y hy;rw[show k+1+i=k+(i+1)from by omega];exact this]
theorem upI_none (lim:Int):∀(ws:Wl) (k:Nat),(∀x∈ws,x.2.1=3)→lim≤(k:Int)→upI lim ws k= []
 | [],_,_,_=>rfl
 |x::r,k,h,hk=>by
  have h0:=h x (by simp)
  rw[upI_cons,if_neg (by omega),upI_none lim r (k+1) (fun y hy=>h y (by simp[hy])) (by omega)]
theorem upI_app (lim:Int):∀(ws us:Wl) (k:Nat),upI lim (ws++us) k=upI lim ws k++upI lim us (k+ws.length)
 | [],us,k=>by simp[upI]
 |x::r,us,k=>by
  rw[List.cons_append,upI_cons,upI_cons,upI_app lim r us (k+1),show k+1+r.length=k+(x::r).length from by simp only[List.length_cons];omega]
  split<;>rfl
theorem upI_P (lim:Int):∀(ps:List Prc) (k i:Nat),lim=((k+i:Nat):Int)→upI lim (wsP ps) k=wsP (ps.take i)
 | [],k,i,_=>by simp[wsP,upI]
 |x::r,k,0,h=>upI_none lim _ k (fun y hy=>by unfold wsP at hy;simp only[List.mem_map]at hy;obtain⟨z,_,rfl⟩:=hy;rfl) (by omega)
 |x::r,k,i+1,h=>by
  show upI lim ((x.nm,3,(x.params.length:Int))::wsP r) k=_
  rw[upI_cons,if_pos (.inr (by omega)),upI_P lim r (k+1) i (by omega)]
  rfl
theorem wsA_kinds (t:Tre):∀x∈wsA t,x.2.1≠3∧x.2.1≠4:=by
 intro x hx
 unfold wsA at hx
 simp only[List.mem_append,List.mem_map]at hx
 rcases hx with⟨y,_,rfl⟩|⟨y,_,rfl⟩<;>exact⟨by simp,by simp⟩
theorem upI_is (t:Tre) (i:Nat):upI ((t.vars.length:Int)+t.arrays.length+i) (wsA t++wsP t.procs) 0=wsA t++wsP (t.procs.take i):=by
 have hl:(wsA t).length =t.vars.length+t.arrays.length:=by simp[wsA]
 rw[upI_app,upI_all _ (wsA t) 0 (fun j x hx=> .inl (wsA_kinds t x (List.mem_of_getElem? hx)).1),upI_P _ _ _ i (by rw[hl];omega)]
theorem fdW_mem {nm:ByteArray}:∀ {ws:Wl} {v:Int×Int},fdW nm ws=some v→∃x∈ws,x.2=v
 | [],v,h=>by simp[fdW]at h
 |x::r,v,h=>by
  unfold fdW at h
  split at h
  ·exact⟨x,by simp,Option.some.inj h⟩
  ·obtain⟨y,hy,e⟩:=fdW_mem h
   exact⟨y,by simp[hy],e⟩
structure Inv (t:Tre) (ws:Wl) (i:Nat) (kn:Kn):Prop where
 kw:KnW kn (wsA t++wsP (t.procs.take i))
 all:∀nm:ByteArray,(kn nm.data.toList).isSome =(fdW nm ws).isSome
theorem Inv.zero {t:Tre} {ws:Wl} {kn:Kn} (hw:ws=wsA t++wsP t.procs) (h:KnD kn ws):Inv t ws 0 kn:=by
 refine⟨fun nm=>?_,h.some⟩
 have h1:=h nm
 rw[hw,fdW_app]at h1
 rw[List.take_zero,show wsP []= []from rfl,List.append_nil]
 cases e:fdW nm (wsA t)with
 |none=>
  rw[e]at h1
  cases e2:fdW nm (wsP t.procs)with
  |none=>rw[e2]at h1;exact .inl h1
  |some v=>
   rw[e2]at h1
   obtain⟨x,hx,rfl⟩:=fdW_mem e2
   unfold wsP at hx
   simp only[List.mem_map]at hx
   obtain⟨z,_,rfl⟩:=hx
   exact .inr ⟨0,h1⟩
 |some v=>
  rw[e]at h1
  obtain⟨x,hx,rfl⟩:=fdW_mem e
  have:=wsA_kinds t x hx
  simp only[Option.map_some,if_neg this.1]at h1
  exact⟨h1,this.2⟩
theorem Inv.next {t:Tre} {ws:Wl} {i:Nat} {kn:Kn} (hw:ws=wsA t++wsP t.procs) (hp:Apt ws) (h:Inv t ws i kn) {p:Prc} (hi:t.procs[i]?=some p):Inv t ws (i+1) (kn.put p.nm.data.toList (3,(p.params.length:Int))):=by
 have hl:i < t.procs.length:=(List.getElem?_eq_some_iff.1 hi).1
 have ht:wsP (t.procs.take (i+1))=wsP (t.procs.take i)++ [(p.nm,3,(p.params.length:Int))]:=by
  rw[List.take_add_one,hi];simp[wsP]
 have hx:ws[(wsA t).length +i]?=some (p.nm,3,(p.params.length:Int)):=by
  rw[hw,List.getElem?_append_right (by omega),Nat.add_sub_cancel_left]
  simp[wsP,hi]
 have hn:=hp _ _ hx
 have htk:ws.take ((wsA t).length +i)=wsA t++wsP (t.procs.take i):=by
  rw[hw,List.take_append,List.take_of_length_le (by omega),Nat.add_sub_cancel_left]
  simp[wsP]
 rw[htk]at hn
 refine⟨fun nm=>?_,fun nm=>?_⟩
 ·rw[ht,←List.append_assoc,fdW_app,fdW_one]
  unfold Kn.put
  by_cases e:nm.data.toList=p.nm.data.toList
  ·have hf:fdW nm (wsA t++wsP (t.procs.take i))=none:=by
    have e2:∀us:Wl,fdW nm us=fdW p.nm us:=by
     intro us
     induction us with
     |nil=>rfl
     |cons x r ih=>
      unfold fdW
      have e3:nm.toList=p.nm.toList:=by simp only[ByteArray.toList_eq];exact e
      rw[ih,e3]
    rw[e2]
    simpa using hn
   rw[hf,if_pos e,if_pos e]
   exact⟨rfl,by simp⟩
  ·rw[if_neg e,if_neg e]
   have:=h.kw nm
   cases hf:fdW nm (wsA t++wsP (t.procs.take i))with
   |none=>rw[hf]at this;exact this
   |some v=>rw[hf]at this;exact this
 ·unfold Kn.put
  by_cases e:nm.data.toList=p.nm.data.toList
  ·rw[if_pos e,←h.all nm,e,h.all p.nm]
   have e2:(fdW p.nm ws).isSome =true:=by
    have hm:∀(us:Wl),(p.nm,3,(p.params.length:Int))∈us→(fdW p.nm us).isSome =true:=by
     intro us
     induction us with
     |nil=>intro h;simp at h
     |cons x r ih=>
      intro h
      unfold fdW
      rcases List.mem_cons.1 h with rfl|h
      ·simp
      ·split
       ·rfl
       ·exact ih h
    exact hm ws (List.mem_of_getElem? hx)
   rw[e2];rfl
  ·rw[if_neg e];exact h.all nm
structure InvP (ws own:Wl) (kn:Kn):Prop where
 kw:KnW kn own
 all:∀nm:ByteArray,(kn nm.data.toList).isSome =true↔((fdW nm ws).isSome =true∨(fdW nm own).isSome =true)
structure ParR (ws:Wl) (s:Cks) (q:Wl×(Int×Int)):Prop where
 ok:q.2.2=0→s.2=(0,0)∧InvP ws q.1 s.1
 no:q.2.2≠0→s.2=q.2
theorem params_is (ws:Wl):∀(xs:List Va) (s:Cks) (own:Wl),s.2=(0,0)→InvP ws own s.1→ParR ws (declVs (1,0) xs s) (rpV ws xs own)
 | [],s,own,he,h=>⟨fun _=>⟨he,h⟩,fun e=>absurd rfl e⟩
 |x::r,s,own,he,h=>by
  unfold declVs rpV
  have hk:=h.all x.nm
  by_cases ha:0≤atI x.nm ws 0∨0≤atI x.nm own 0
  ·rw[if_pos ha]
   have h0:(s.1 x.nm.data.toList).isSome =true:=hk.2 (by rw[←at_none,←at_none];exact ha)
   have h1:(declC s x.nm.data.toList x.at_ (1,0)).2 =(x.at_,111):=by
    show declE s.1 s.2 _ _=_
    unfold declE
    rw[h0,he]
    rfl
   exact⟨fun e=>absurd e (by simp),fun _=>by rw[declVs_err r _ (by rw[h1];simp),h1]⟩
  ·rw[if_neg ha]
   have h0:s.1 x.nm.data.toList=none:=by
    cases e:s.1 x.nm.data.toList with
    |none=>rfl
    |some v=>exact absurd (by rw[at_none,at_none];exact hk.1 (by rw[e];rfl)) ha
   rw[declC_ok h0]
   refine params_is ws r _ _ he ⟨fun nm=>?_,fun nm=>?_⟩
   ·show match fdW nm (own++ [(x.nm,1,0)])with|none=>_|some v=>_
    have h2:=h.kw nm
    rw[fdW_app,fdW_one]
    unfold Kn.put
    by_cases e:nm.data.toList=x.nm.data.toList
    ·simp only[if_pos e]
     rw[e,h0]at h2
     cases hf:fdW nm own with
     |none=>exact⟨rfl,by decide⟩
     |some v=>rw[hf]at h2;exact absurd h2.1 (by simp)
    ·simp only[if_neg e]
     cases hf:fdW nm own with
     |none=>rw[hf]at h2;exact h2
     |some v=>rw[hf]at h2;exact h2
   ·have h2:=h.all nm
    rw[fdW_app,fdW_one]
    unfold Kn.put
    by_cases e:nm.data.toList=x.nm.data.toList
    ·simp only[if_pos e]
     cases hf:fdW nm own<;>simp
    ·simp only[if_neg e]
     rw[h2]
     cases hf:fdW nm own<;>simp
theorem procC_is {t:Tre} {ws:Wl} {i:Nat} {s:Cks} (hw:ws=wsA t++wsP t.procs) (h:Inv t ws i s.1) (he:s.2=(0,0)) (p:Prc) (ho:okS p.body=true):
  (procC p.nm.data.toList p.params p.body p.at_ s).2 =rp1 ws (upI ((t.vars.length:Int)+t.arrays.length+i) ws 0) p:=by
 have hup:upI ((t.vars.length:Int)+t.arrays.length+i) ws 0=wsA t++wsP (t.procs.take i):=by rw[hw];exact upI_is t i
 rw[hup]
 unfold rp1 procC
 simp only
 by_cases h4:4 < (p.params.length:Int)
 ·rw[if_pos h4,he]
  have e:decide ((p.params.length:Int)≤4)=false:=by simp;omega
  rw[e]
  have h1:askC (0,0) false (p.at_,4)=(p.at_,(4:Int)):=rfl
  rw[h1]
  have h2:=declVs_err (v:=(1,0)) p.params (s.1,(p.at_,(4:Int))) (by simp)
  rw[if_neg (by rw[h2];simp),h2]
 ·rw[if_neg h4,he]
  have e:decide ((p.params.length:Int)≤4)=true:=by simp;omega
  rw[e,askC_ok]
  have hP:=params_is ws p.params (s.1,((0:Int),(0:Int))) (wsA t++wsP (t.procs.take i)) rfl ⟨h.kw,fun nm=>?_⟩
  ·by_cases e1:(rpV ws p.params (wsA t++wsP (t.procs.take i))).2.2 =0
   ·obtain⟨g1,g2⟩:=hP.ok e1
    rw[if_pos e1,if_pos (by rw[g1])]
    simp only
    rw[g1]
    exact stmtsC_is2 g2.kw _ ho
   ·have g:=hP.no e1
    rw[if_neg e1,if_neg (by rw[g];exact e1),g]
  ·rw[h.all nm]
   refine⟨fun h=> .inl h,fun h'=>h'.elim id fun h2=>?_⟩
   rw[←h.all nm]
   have:=h.kw nm
   cases hf:fdW nm (wsA t++wsP (t.procs.take i))with
   |none=>rw[hf]at h2;exact absurd h2 (by simp)
   |some v=>rw[hf]at this;rw[this.1];rfl
theorem procsC_is {t:Tre} {ws:Wl} (hw:ws=wsA t++wsP t.procs) (hap:Apt ws):∀(xs:List Prc) (i:Nat) (s:Cks),t.procs.drop i=xs→Inv t ws i s.1→s.2=(0,0)→(∀p∈xs,okS p.body=true)→
  ((rpP ((t.vars.length:Int)+t.arrays.length) ws xs i).2 =0→(procsC xs s).2 =false∧(procsC xs s).1.2 =(0,0)∧KnW (procsC xs s).1.1 ws)∧
  ((rpP ((t.vars.length:Int)+t.arrays.length) ws xs i).2 ≠0→(procsC xs s).2 =true∧(procsC xs s).1.2 =rpP ((t.vars.length:Int)+t.arrays.length) ws xs i)
 | [],i,s,hd,h,he,_=>⟨fun _=>⟨rfl,he,by
   have h1:=h.kw
   have hl:t.procs.length≤i:=by
    rcases Nat.lt_or_ge i t.procs.length with h|h
    ·rw[List.drop_eq_getElem_cons h]at hd;cases hd
    ·exact h
   rw[List.take_of_length_le hl,←hw]at h1
   exact h1⟩,fun e=>absurd rfl e⟩
 |p::r,i,s,hd,h,he,ho=>by
  have h1:=procC_is hw h he p (ho p (by simp))
  have hi:t.procs[i]?=some p:=get_drop0 hd
  have hdr:t.procs.drop (i+1)=r:=by
   have:=congrArg List.tail hd
   simpa using this
  unfold rpP procsC
  by_cases e:(rp1 ws (upI ((t.vars.length:Int)+t.arrays.length+i) ws 0) p).2 =0
  ·rw[if_pos e,if_pos (by rw[h1];exact e)]
   have h2:procC p.nm.data.toList p.params p.body p.at_ s=(s.1.put p.nm.data.toList (3,(p.params.length:Int)),s.2):=procC_ok (procC_no (by rw[h1];exact e)) (by rw[he])
   rw[h2]
   exact procsC_is hw hap r (i+1) _ hdr (h.next hw hap hi) he fun q hq=>ho q (by simp[hq])
  ·rw[if_neg e,if_neg (by rw[h1];exact e)]
   exact⟨fun e'=>absurd e' e,fun _=>⟨rfl,h1⟩⟩
theorem treeC_is (t:Tre):treeC t=rtI (okTr t) (fewT t) t:=by
 unfold treeC rtI
 by_cases h1:okTr t=true
 rotate_left
 ·rw[if_neg h1,if_neg h1]
 rw[if_pos h1,if_pos h1]
 by_cases h2:fewT t=true
 rotate_left
 ·rw[if_neg h2,if_neg h2]
 rw[if_pos h2,if_pos h2]
 have hD:=declT_is t
 have hok:=h1
 unfold okTr at hok
 simp only[Bool.and_eq_true]at hok
 have hps:∀p∈t.procs,okS p.body=true:=fun p hp=>by
  have:=hok.2
  unfold okPs allPr at this
  have:=List.all_eq_true.1 this p hp
  simp only[Bool.and_eq_true]at this
  exact this.2
 by_cases e1:(rdT t).2.2 =0
 ·rw[if_pos e1]
  obtain⟨g1,g2⟩:=hD.ok e1
  obtain⟨g3,g4⟩:=rdT_rows e1
  obtain⟨k1,k2⟩:=procsC_is g4 g3 t.procs 0 (declT t) rfl (Inv.zero g4 g2) g1 hps
  by_cases e2:(rpP ((t.vars.length:Int)+t.arrays.length) (rdT t).1 t.procs 0).2 =0
  ·obtain⟨m1,m2,m3⟩:=k1 e2
   rw[if_pos e2,m1,m2]
   simp only[Bool.false_eq_true,if_false]
   exact stmtsC_is2 m3 _ hok.1.1.2
  ·obtain⟨m1,m2⟩:=k2 e2
   rw[if_neg e2,m1,m2]
   simp
 ·rw[if_neg e1]
  have g:=hD.no e1
  have hne:(declT t).2.2 ≠0:=by rw[g];exact e1
  cases hp:t.procs with
  |nil=>
   show(if false=true then _ else stmtsC (declT t).1 t.main (declT t).2)=_
   simp only[Bool.false_eq_true,if_false]
   rw[stmtsC_stays _ _ hne,g]
  |cons p r=>
   have hz:=procC_stays (nm:=p.nm.data.toList) (ps:=p.params) (body:=p.body) (at_:=p.at_) hne
   have hs:(procC p.nm.data.toList p.params p.body p.at_ (declT t)).2 =(declT t).2 :=by
    have hv:(declVs (1,0) p.params ((declT t).1,askC (declT t).2 (decide ((p.params.length:Int)≤4)) (p.at_,4))).2 =(declT t).2 :=by
     rw[declVs_err _ _ (by rw[askC_stays hne];exact hne),askC_stays hne]
    unfold procC
    simp only
    rw[if_neg (by rw[hv];exact hne),hv]
   unfold procsC
   rw[if_neg hz]
   simp only[if_true]
   rw[hs,g]
end Go.Proofs.YtmopichdofgndaaGreatDoor
