/- Plain law: what ref11 says of expressions is what check says. -/
import Derived.Test.YtmopichdofgndaaGreatDoorJnCl
import Derived.Test.YtmopichdofgndaaGreatDoorJnRtP
set_option linter.all false
namespace Go.Proofs.YtmopichdofgndaaGreatDoor
open Go.RowKit Go.Shelf
def KnW (kn:Kn)(ws:Wl):Prop:=∀nm:ByteArray,match fdW nm ws with
 |none=>kn nm.data.toList=none\/∃v,kn nm.data.toList=some (4,v)
 |some v=>kn nm.data.toList=some v/\v.1≠4
theorem zdL {kn:Kn}{ws:Wl}(h:KnW kn ws)(nm:ByteArray)(k at_:Int):useC kn (0,0) nm.data.toList k at_=if isI nm k ws=0 then(0,0)else(at_,isI nm k ws):=by
 have h1:=h nm;unfold useC isI;cases hf:fdW nm ws with
 |none=>
  rw[hf]at h1;rcases h1 with e|⟨v,e⟩
  ·simp only[e];simp[askC,zcw]
  ·simp only[e];simp[askC,zcw]
 |some v=>
  rw[hf]at h1;simp only[h1.1];by_cases hk:v.1=k
  ·simp[askC,zcw,hk,h1.2];rw[<-hk];exact h1.2
  ·simp[askC,zcw,hk,h1.2]
theorem zbG {kn:Kn}{st:Int×Int}{t:List UInt8}{k at_:Int}(h:st.2≠0):useC kn st t k at_=st:=by
 unfold useC;rw[zaG h,zaG h]
theorem zaU {kn:Kn}:∀(xs:Exs)(st:Int×Int),st.2≠0->zax kn xs st=st
 | .nil,st,_=>rfl
 | .cons k nm n args at_ r,st,h=>by
  unfold zax;have e:(if k=2 then useC kn st nm.data.toList 1 at_ else if k=3 then useC kn st nm.data.toList 2 at_ else st)=st:=by
   by_cases e2:k=2
   ·rw[if_pos e2,zbG h]
   ·rw[if_neg e2];by_cases e3:k=3
    ·rw[if_pos e3,zbG h]
    ·rw[if_neg e3]
  rw[e,zaU args st h,zaU r st h]
theorem zng {kn:Kn}{ws:Wl}(h:KnW kn ws)(k:Int)(nm:ByteArray)(args:Exs)(at_:Int)(hv:k=2->args= .nil)(ha:zax kn args (0,0)=if(exsI ws args).2 =0 then(0,0)else exsI ws args):
  zax kn args (if k=2 then useC kn (0,0) nm.data.toList 1 at_ else if k=3 then useC kn (0,0) nm.data.toList 2 at_ else(0,0))=if(exI ws k nm args at_).2 =0 then(0,0)else exI ws k nm args at_:=by
 unfold exI;by_cases e2:k=2
 ·rw[if_pos e2,if_pos e2,zdL h,hv e2];rfl
 ·rw[if_neg e2,if_neg e2];by_cases e3:k=3
  ·rw[if_pos e3,zdL h];by_cases e:isI nm 2 ws=0
   ·have q:¬(k=3/\isI nm 2 ws≠0):=λh=>h.2 e;rw[if_pos e];simp only[if_neg q];exact ha
   ·have q:k=3/\isI nm 2 ws≠0:=⟨e3,e⟩;rw[if_neg e];simp only[if_pos q];rw[zaU _ _ e,if_neg e]
  ·have q:¬(k=3/\isI nm 2 ws≠0):=λh=>e3 h.1;rw[if_neg e3];simp only[if_neg q];exact ha
theorem zmD {k:Int}{nm:ByteArray}{n:Int}{args:Exs}{at_:Int}{r:Exs}(h:okX (.cons k nm n args at_ r)=true):(k=2->args= .nil)/\okX args=true/\okX r=true:=by
 unfold okX at h;simp only[Bool.and_eq_true]at h;obtain⟨⟨⟨_,h1⟩,h2⟩,h3⟩:=h;refine⟨λe=>?_,h2,h3⟩;subst e;cases args with
 |nil=>rfl
 |cons a b c d e f=>
  exfalso
  have h1:(((Exs.cons a b c d e f).len :Int)==0)=true:=h1;simp only[Exs.len,beq_iff_eq]at h1;omega
theorem zcC {kn:Kn}{ws:Wl}(h:KnW kn ws):∀xs:Exs,okX xs=true->zax kn xs (0,0)=if(exsI ws xs).2 =0 then(0,0)else exsI ws xs
 | .nil,_=>rfl
 | .cons k nm n args at_ r,ho=>by
  obtain⟨o1,o2,o3⟩:=zmD ho;have hr:=zcC h r o3;have hP:=zng h k nm args at_ o1 (zcC h args o2);have e1:zax kn (.cons k nm n args at_ r) (0,0)=zax kn r (zax kn args (if k=2 then useC kn (0,0) nm.data.toList 1 at_ else if k=3 then useC kn (0,0) nm.data.toList 2 at_ else(0,0))):=rfl;have e2:exsI ws (.cons k nm n args at_ r)=if(exI ws k nm args at_).2 =0 then exsI ws r else exI ws k nm args at_:=rfl
  rw[e1,e2,hP];by_cases e:(exI ws k nm args at_).2 =0
  ·rw[if_pos e,if_pos e,hr]
  ·rw[if_neg e,if_neg e,zaU _ _ e,if_neg e]
theorem zaL {kn:Kn}:∀(xs:Cds)(st:Int×Int),st.2≠0->zaK kn xs st=st
 | .nil,st,_=>rfl
 | .cons k args of_ at_ r,st,h=>by
  unfold zaK;rw[zaU args st h,zaL of_ st h,zaL r st h]
theorem zdM {kn:Kn}{ws:Wl}(h:KnW kn ws):∀xs:Cds,okC xs=true->zaK kn xs (0,0)=if(cdsI ws xs).2 =0 then(0,0)else cdsI ws xs
 | .nil,_=>rfl
 | .cons k args of_ at_ r,ho=>by
  have V9:=ho;unfold okC at V9;simp only[Bool.and_eq_true]at V9;obtain⟨⟨⟨_,o1⟩,o2⟩,o3⟩:=V9;have h1:=zcC h args o1;have h2:=zdM h of_ o2;have h3:=zdM h r o3;have e1:zaK kn (.cons k args of_ at_ r) (0,0)=zaK kn r (zaK kn of_ (zax kn args (0,0))):=rfl;have e2:cdsI ws (.cons k args of_ at_ r)=if(exsI ws args).2 =0 then(if(cdsI ws of_).2 =0 then cdsI ws r else cdsI ws of_)else exsI ws args:=rfl
  rw[e1,e2,h1];by_cases e:(exsI ws args).2 =0
  ·rw[if_pos e,if_pos e,h2];by_cases e':(cdsI ws of_).2 =0
   ·rw[if_pos e',if_pos e',h3]
   ·rw[if_neg e',if_neg e',zaL _ _ e',if_neg e']
  ·rw[if_neg e,if_neg e,zaL _ _ e,zaL _ _ e,if_neg e]
theorem mn_is {kn:Kn}{ws:Wl}(h:KnW kn ws)(nm:ByteArray)(hi:isI nm 3 ws=0):((kn nm.data.toList).getD (0,0)).2 =mnI nm ws:=by
 have h1:=h nm;unfold isI at hi;unfold mnI;cases hf:fdW nm ws with
 |none=>rw[hf]at hi;exact absurd hi (by decide)
 |some v=>
  rw[hf]at h1;rw[h1.1]
theorem zk7 {kn:Kn}{ws:Wl}(h:KnW kn ws)(k:Int)(nm:ByteArray)(na at_:Int):zcN kn k nm.data.toList na at_ (0,0)=if nmdI ws k nm na=0 then(0,0)else(at_,nmdI ws k nm na):=by
 unfold zcN nmdI;by_cases e1:k=2\/k=4
 ·simp only[if_pos e1];exact zdL h nm 1 at_
 ·simp only[if_neg e1];by_cases e2:k=3
  ·simp only[if_pos e2];exact zdL h nm 2 at_
  ·simp only[if_neg e2];by_cases e3:k=9
   ·simp only[if_pos e3];rw[zdL h];by_cases e:isI nm 3 ws=0
    ·rw[if_pos e,mn_is h nm e];by_cases e':mnI nm ws=na
     ·have q:¬(isI nm 3 ws=0/\mnI nm ws≠na):=λh=>h.2 e';simp only[if_neg q];rw[if_pos e];simp[askC,e']
     ·have q:isI nm 3 ws=0/\mnI nm ws≠na:=⟨e,e'⟩;simp only[if_pos q];simp[askC,zcw,e']
    ·have q:¬(isI nm 3 ws=0/\mnI nm ws≠na):=λh=>e h.1;simp only[if_neg q];rw[if_neg e,zaG e]
   ·simp only[if_neg e3];rfl
theorem zda {f:Int×Int->Int×Int}{p q:Int×Int}(Hq:∀st,st.2≠0->f st=st)(h0:f (0,0)=if q.2=0 then(0,0)else q):f (if p.2=0 then(0,0)else p)=if(orI p q).2 =0 then(0,0)else orI p q:=by
 by_cases e:p.2=0
 ·rw[if_pos e,zg6 e,h0]
 ·rw[if_neg e,zdA e,Hq p e,if_neg e]
theorem zgE {kn:Kn}{k:Int}{t:List UInt8}{na at_:Int}{st:Int×Int}(h:st.2≠0):zcN kn k t na at_ st=st:=by
 unfold zcN;by_cases e1:k=2\/k=4
 ·rw[if_pos e1,zbG h]
 ·rw[if_neg e1];by_cases e2:k=3
  ·rw[if_pos e2,zbG h]
  ·rw[if_neg e2];by_cases e3:k=9
   ·rw[if_pos e3,zbG h,zaG h]
   ·rw[if_neg e3]
theorem zay {kn:Kn}:∀(xs:Sts)(st:Int×Int),st.2≠0->zan kn xs st=st
 | .nil,st,_=>rfl
 | .cons k nm args cond body els at_ r,st,h=>by
  unfold zan;rw[zgE h,zaU args st h,zaL cond st h,zay body st h,zay els st h,zay r st h]
theorem zcD {kn:Kn}{ws:Wl}(h:KnW kn ws):∀xs:Sts,okS xs=true->zan kn xs (0,0)=if(stsI ws xs).2 =0 then(0,0)else stsI ws xs
 | .nil,_=>rfl
 | .cons k nm args cond body els at_ r,ho=>by
  have V9:=ho;unfold okS at V9;simp only[Bool.and_eq_true]at V9;obtain⟨⟨⟨⟨⟨_,o1⟩,o2⟩,o3⟩,o4⟩,o5⟩:=V9;have h1:=zcC h args o1;have h2:=zdM h cond o2;have h3:=zcD h body o3;have h4:=zcD h els o4;have h5:=zcD h r o5;have e1:zan kn (.cons k nm args cond body els at_ r) (0,0)=zan kn r (zan kn els (zan kn body (zaK kn cond (zax kn args (zcN kn k nm.data.toList (args.len:Int) at_ (0,0)))))):=rfl;have e2:stsI ws (.cons k nm args cond body els at_ r)=if nmdI ws k nm (args.len:Int)=0 then(if(orI (orI (orI (exsI ws args) (cdsI ws cond)) (stsI ws body)) (stsI ws els)).2 =0 then stsI ws r else orI (orI (orI (exsI ws args) (cdsI ws cond)) (stsI ws body)) (stsI ws els))else(at_,nmdI ws k nm (args.len:Int)):=rfl
  rw[e1,e2,zk7 h];by_cases e:nmdI ws k nm (args.len:Int)=0
  ·rw[if_pos e,if_pos e,h1,zda (f:=zaK kn cond) (zaL cond) h2,zda (f:=zan kn body) (zay body) h3,zda (f:=zan kn els) (zay els) h4,zda (f:=zan kn r) (zay r) h5];rfl
  ·rw[if_neg e,if_neg e,zaU args _ e,zaL cond _ e,zay body _ e,zay els _ e,zay r _ e,if_neg e]
theorem zfR {ws:Wl}:∀xs:Sts,(stsI ws xs).2 =0->stsI ws xs=(0,0)
 | .nil,_=>rfl
 | .cons k nm args cond body els at_ r,h=>by
  have e2:stsI ws (.cons k nm args cond body els at_ r)=if nmdI ws k nm (args.len:Int)=0 then(if(orI (orI (orI (exsI ws args) (cdsI ws cond)) (stsI ws body)) (stsI ws els)).2 =0 then stsI ws r else orI (orI (orI (exsI ws args) (cdsI ws cond)) (stsI ws body)) (stsI ws els))else(at_,nmdI ws k nm (args.len:Int)):=rfl
  rw[e2]at h ⊢;by_cases e:nmdI ws k nm (args.len:Int)=0
  ·rw[if_pos e]at h ⊢;by_cases e':(orI (orI (orI (exsI ws args) (cdsI ws cond)) (stsI ws body)) (stsI ws els)).2 =0
   ·rw[if_pos e']at h ⊢;exact zfR r h
   ·rw[if_neg e']at h;exact absurd h e'
  ·rw[if_neg e]at h;exact absurd h e
theorem zev {kn:Kn}{ws:Wl}(h:KnW kn ws)(xs:Sts)(ho:okS xs=true):zan kn xs (0,0)=stsI ws xs:=by
 rw[zcD h xs ho];by_cases e:(stsI ws xs).2 =0
 ·rw[if_pos e,zfR xs e]
 ·rw[if_neg e]
theorem at_none {nm:ByteArray}{ws:Wl}:(0<=atI nm ws 0)↔(fdW nm ws).isSome =true:=by
 rcases zc8 nm ws 0 with⟨h1,h2⟩|⟨i,x,h1,h2,h3⟩
 ·rw[h1,h2];simp
 ·rw[h1,h3];simp
theorem zcS (nm:ByteArray):∀(ws us:Wl),fdW nm (ws++us)=match fdW nm ws with|some v=>some v|none=>fdW nm us
 | [],us=>rfl
 |x::r,us=>by
  show(if x.1.toList==nm.toList then some x.2 else fdW nm (r++us))=match (if x.1.toList==nm.toList then some x.2 else fdW nm r)with|some v=>some v|none=>fdW nm us
  by_cases h:(x.1.toList==nm.toList)=true
  ·rw[if_pos h,if_pos h]
  ·rw[if_neg h,if_neg h];exact zcS nm r us
theorem ze4 (nm a:ByteArray)(v:Int×Int):fdW nm [(a,v)]=if nm.data.toList=a.data.toList then some v else none:=by
 show(if a.toList==nm.toList then some v else none)=_
 by_cases h:nm.data.toList=a.data.toList
 ·rw[if_pos h,if_pos];simp only[beq_iff_eq,ByteArray.toList_eq];exact h.symm
 ·rw[if_neg h,if_neg];simp only[beq_iff_eq,ByteArray.toList_eq];exact λe=>h e.symm
def KnD (kn:Kn)(ws:Wl):Prop:=∀nm:ByteArray,kn nm.data.toList=(fdW nm ws).map λv=>if v.1=3 then(4,0)else v
theorem KnD.some {kn:Kn}{ws:Wl}(h:KnD kn ws)(nm:ByteArray):(kn nm.data.toList).isSome =(fdW nm ws).isSome :=by rw[h nm,Option.isSome_map]
theorem KnD.put {kn:Kn}{ws:Wl}(h:KnD kn ws){a:ByteArray}(ha:(fdW a ws).isSome =false)(v:Int×Int):KnD (kn.put a.data.toList (if v.1=3 then(4,0)else v)) (ws++ [(a,v)]):=by
 intro nm;unfold Kn.put;rw[zcS,ze4];by_cases e:nm.data.toList=a.data.toList
 ·rw[if_pos e,if_pos e];have h1:=h.some nm;rw[e,h.some a,ha]at h1;have h2:fdW nm ws=none:=by
   cases e2:fdW nm ws with
   |none=>rfl
   |some x=>rw[e2]at h1;exact absurd h1 (by simp)
  rw[h2];rfl
 ·rw[if_neg e,if_neg e,h nm];cases fdW nm ws<;>rfl
theorem zdN {s:Cks}{ws:Wl}(h:KnD s.1 ws){a:ByteArray}{at_:Int}{v:Int×Int}(ha:¬0<=atI a ws 0):zbM s a.data.toList at_ v=(s.1.put a.data.toList v,s.2):=by
 refine zb5 ?_;have h1:=h.some a;rw[at_none]at ha;cases e:s.1 a.data.toList with
 |none=>rfl
 |some x=>rw[e]at h1;exact absurd h1.symm ha
theorem zdO {s:Cks}{ws:Wl}(h:KnD s.1 ws)(he:s.2=(0,0)){a:ByteArray}{at_:Int}{v:Int×Int}(ha:0<=atI a ws 0):(zbM s a.data.toList at_ v).2 =(at_,111):=by
 show zcx s.1 s.2 a.data.toList at_=_
 unfold zcx;rw[h.some a,at_none.1 ha,he];rfl
theorem zdP {s:Cks}(h:s.2.2≠0){t:List UInt8}{at_:Int}{v:Int×Int}:(zbM s t at_ v).2 =s.2:=by
 show zcx s.1 s.2 t at_=_
 unfold zcx;rw[zaG h]
theorem zbH {v:Int×Int}:∀(xs:List Va)(s:Cks),s.2.2≠0->(zaF v xs s).2 =s.2
 | [],s,_=>rfl
 |x::r,s,h=>by
  have h1:=zdP h (t:=x.nm.data.toList) (at_:=x.at_) (v:=v);unfold zaF;rw[zbH r _ (by rw[h1];exact h),h1]
theorem zbO:∀(xs:List Arr)(s:Cks),s.2.2≠0->(za1 xs s).2 =s.2
 | [],s,_=>rfl
 |x::r,s,h=>by
  have h1:=zdP h (t:=x.nm.data.toList) (at_:=x.at_) (v:=(2,0));have h2:(zcy s x).2 =s.2:=by
   unfold zcy;simp only;rw[h1,zaG h]
  unfold za1;rw[zbO r _ (by rw[h2];exact h),h2]
theorem zbP:∀(xs:List Prc)(s:Cks),s.2.2≠0->(za2 xs s).2 =s.2
 | [],s,_=>rfl
 |x::r,s,h=>by
  have h1:=zdP h (t:=x.nm.data.toList) (at_:=x.at_) (v:=(4,0));unfold za2;rw[zbP r _ (by rw[h1];exact h),h1]
structure DecR (s:Cks)(q:Wl×(Int×Int)):Prop where
 ok:q.2.2=0->s.2=(0,0)/\KnD s.1 q.1
 no:q.2.2≠0->s.2=q.2
theorem zfS:∀(xs:List Va)(s:Cks)(ws:Wl),s.2=(0,0)->KnD s.1 ws->DecR (zaF (1,0) xs s) (rdV xs ws)
 | [],s,ws,he,h=>⟨λ_=>⟨he,h⟩,λe=>absurd rfl e⟩
 |x::r,s,ws,he,h=>by
  unfold zaF rdV;by_cases ha:0<=atI x.nm ws 0
  ·rw[if_pos ha];have h1:=zdO h he (at_:=x.at_) (v:=(1,0)) ha;exact⟨λe=>absurd e (by simp),λ_=>by rw[zbH r _ (by rw[h1];simp),h1]⟩
  ·rw[if_neg ha,zdN h ha];exact zfS r _ _ he (h.put (by simpa[at_none]using ha) (1,0))
theorem zew:∀(xs:List Arr)(s:Cks)(ws:Wl),s.2=(0,0)->KnD s.1 ws->DecR (za1 xs s) (rdA xs ws)
 | [],s,ws,he,h=>⟨λ_=>⟨he,h⟩,λe=>absurd rfl e⟩
 |x::r,s,ws,he,h=>by
  unfold za1 rdA;by_cases ha:0<=atI x.nm ws 0
  ·rw[if_pos ha];have h1:=zdO h he (at_:=x.at_) (v:=(2,0)) ha;have h2:(zcy s x).2 =(x.at_,111):=by
    unfold zcy;simp only;rw[h1,zaG (by simp)]
   exact⟨λe=>absurd e (by simp),λ_=>by rw[zbO r _ (by rw[h2];simp),h2]⟩
  ·rw[if_neg ha];have h1:=zdN h (at_:=x.at_) (v:=(2,0)) ha;by_cases hz:x.size < 1\/16 < x.size
   ·rw[if_pos hz];have h2:(zcy s x).2 =(x.at_,113):=by
     unfold zcy;simp only;rw[h1,he];have e:(decide ((1:Int)<=x.size)&&decide (x.size<=(16:Int)))=false:=by
      rw[Bool.and_eq_false_iff];simp only[decide_eq_false_iff_not];omega
     rw[e];rfl
    exact⟨λe=>absurd e (by simp),λ_=>by rw[zbO r _ (by rw[h2];simp),h2]⟩
   ·rw[if_neg hz];have h2:zcy s x=(s.1.put x.nm.data.toList (2,0),s.2):=by
     unfold zcy;rw[h1];have e:(decide ((1:Int)<=x.size)&&decide (x.size<=(16:Int)))=true:=by
      simp only[Bool.and_eq_true,decide_eq_true_eq];omega
     rw[e];rfl
    rw[h2];exact zew r _ _ he (h.put (by simpa[at_none]using ha) (2,0))
theorem zex:∀(xs:List Prc)(s:Cks)(ws:Wl),s.2=(0,0)->KnD s.1 ws->DecR (za2 xs s) (rdP xs ws)
 | [],s,ws,he,h=>⟨λ_=>⟨he,h⟩,λe=>absurd rfl e⟩
 |x::r,s,ws,he,h=>by
  unfold za2 rdP;by_cases ha:0<=atI x.nm ws 0
  ·rw[if_pos ha];have h1:=zdO h he (at_:=x.at_) (v:=(4,0)) ha;exact⟨λe=>absurd e (by simp),λ_=>by rw[zbP r _ (by rw[h1];simp),h1]⟩
  ·rw[if_neg ha,zdN h ha];exact zex r _ _ he (h.put (by simpa[at_none]using ha) (3,(x.params.length:Int)))
theorem zk8 (t:Tre):DecR (zbc t) (rdT t):=by
 have h1:=zfS t.vars (λ_=>none,(0,0)) [] rfl λnm=>rfl;unfold zbc rdT;by_cases e1:(rdV t.vars []).2.2 =0
 ·rw[if_pos e1];obtain⟨g1,g2⟩:=h1.ok e1;have h2:=zew t.arrays _ _ g1 g2;by_cases e2:(rdA t.arrays (rdV t.vars []).1).2.2 =0
  ·rw[if_pos e2];obtain⟨g3,g4⟩:=h2.ok e2;exact zex t.procs _ _ g3 g4
  ·rw[if_neg e2];have h3:=h2.no e2;exact⟨λe=>absurd e e2,λ_=>by rw[zbP _ _ (by rw[h3];exact e2),h3]⟩
 ·rw[if_neg e1];have h3:=h1.no e1;have h4:=zbO t.arrays (zaF (1,0) t.vars (λ_=>none,(0,0))) (by rw[h3];exact e1);exact⟨λe=>absurd e e1,λ_=>by rw[zbP _ _ (by rw[h4,h3];exact e1),h4,h3]⟩
def Apt (ws:Wl):Prop:=∀i x,ws[i]?=some x->(fdW x.1 (ws.take i)).isSome =false
theorem Apt.snoc {ws:Wl}(h:Apt ws){x:ByteArray×Int×Int}(hx:¬0<=atI x.1 ws 0):Apt (ws++ [x]):=by
 intro i y hy;rcases Nat.lt_trichotomy i ws.length with Hr|heq|jX
 ·rw[List.getElem?_append_left Hr]at hy;rw[List.take_append_of_le_length (by omega)];exact h i y hy
 ·subst heq;simp at hy;subst hy;rw[List.take_append_of_le_length (lrq _),List.take_length];simpa[at_none]using hx
 ·rw[List.getElem?_eq_none (by simp;omega)]at hy;simp at hy
theorem zhb:∀(xs:List Va)(ws:Wl),Apt ws->(rdV xs ws).2.2 =0->Apt (rdV xs ws).1 /\(rdV xs ws).1 =ws++xs.map λx=>(x.nm,1,0)
 | [],ws,h,_=>⟨h,by simp[rdV]⟩
 |x::r,ws,h,he=>by
  unfold rdV at he ⊢;by_cases ha:0<=atI x.nm ws 0
  ·rw[if_pos ha]at he;exact absurd he (by simp)
  ·rw[if_neg ha]at he ⊢;obtain⟨h1,h2⟩:=zhb r _ (h.snoc (x:=(x.nm,1,0)) ha) he;exact⟨h1,by rw[h2];simp⟩
theorem zhc:∀(xs:List Arr)(ws:Wl),Apt ws->(rdA xs ws).2.2 =0->Apt (rdA xs ws).1 /\(rdA xs ws).1 =ws++xs.map λx=>(x.nm,2,0)
 | [],ws,h,_=>⟨h,by simp[rdA]⟩
 |x::r,ws,h,he=>by
  unfold rdA at he ⊢;by_cases ha:0<=atI x.nm ws 0
  ·rw[if_pos ha]at he;exact absurd he (by simp)
  ·rw[if_neg ha]at he ⊢;by_cases hz:x.size < 1\/16 < x.size
   ·rw[if_pos hz]at he;exact absurd he (by simp)
   ·rw[if_neg hz]at he ⊢;obtain⟨h1,h2⟩:=zhc r _ (h.snoc (x:=(x.nm,2,0)) ha) he;exact⟨h1,by rw[h2];simp⟩
theorem zhd:∀(xs:List Prc)(ws:Wl),Apt ws->(rdP xs ws).2.2 =0->Apt (rdP xs ws).1 /\(rdP xs ws).1 =ws++xs.map λx=>(x.nm,3,(x.params.length:Int))
 | [],ws,h,_=>⟨h,by simp[rdP]⟩
 |x::r,ws,h,he=>by
  unfold rdP at he ⊢;by_cases ha:0<=atI x.nm ws 0
  ·rw[if_pos ha]at he;exact absurd he (by simp)
  ·rw[if_neg ha]at he ⊢;obtain⟨h1,h2⟩:=zhd r _ (h.snoc (x:=(x.nm,3,(x.params.length:Int))) ha) he;exact⟨h1,by rw[h2];simp⟩
def wsA (t:Tre):Wl:=(t.vars.map λx=>(x.nm,1,0))++(t.arrays.map λx=>(x.nm,2,0))
def wsP (ps:List Prc):Wl:=ps.map λx=>(x.nm,3,(x.params.length:Int))
theorem zk9 {t:Tre}(he:(rdT t).2.2 =0):Apt (rdT t).1 /\(rdT t).1 =wsA t++wsP t.procs:=by
 unfold rdT at he ⊢;by_cases e1:(rdV t.vars []).2.2 =0
 ·rw[if_pos e1]at he ⊢;obtain⟨g1,g2⟩:=zhb t.vars [] (λi x h=>by simp at h) e1;by_cases e2:(rdA t.arrays (rdV t.vars []).1).2.2 =0
  ·rw[if_pos e2]at he ⊢;obtain⟨g3,g4⟩:=zhc t.arrays _ g1 e2;obtain⟨g5,g6⟩:=zhd t.procs _ g3 he;exact⟨g5,by rw[g6,g4,g2];simp[wsA,wsP]⟩
  ·rw[if_neg e2]at he;exact absurd he e2
 ·rw[if_neg e1]at he;exact absurd he e1
theorem zjt (lim:Int):∀(ws:Wl)(k:Nat),(∀i x,ws[i]?=some x->x.2.1≠3\/((k+i:Nat):Int) < lim)->upI lim ws k=ws
 | [],_,_=>rfl
 |x::r,k,h=>by
  rw[zbN,if_pos (by have:=h 0 x rfl;simpa using this),zjt lim r (k+1) λi y hy=>by have:=h (i+1) y hy;rw[show k+1+i=k+(i+1)from by omega];exact this]
theorem zhe (lim:Int):∀(ws:Wl)(k:Nat),(∀x∈ws,x.2.1=3)->lim<=(k:Int)->upI lim ws k= []
 | [],_,_,_=>rfl
 |x::r,k,h,hk=>by
  have h0:=h x (by simp);rw[zbN,if_neg (by omega),zhe lim r (k+1) (λy hy=>h y (by simp[hy])) (by omega)]
theorem zju (lim:Int):∀(ws us:Wl)(k:Nat),upI lim (ws++us) k=upI lim ws k++upI lim us (k+ws.length)
 | [],us,k=>by simp[upI]
 |x::r,us,k=>by
  rw[List.cons_append,zbN,zbN,zju lim r us (k+1),show k+1+r.length=k+(x::r).length from by simp only[List.length_cons];omega];split<;>rfl
theorem znh (lim:Int):∀(ps:List Prc)(k i:Nat),lim=((k+i:Nat):Int)->upI lim (wsP ps) k=wsP (ps.take i)
 | [],k,i,_=>by simp[wsP,upI]
 |x::r,k,0,h=>zhe lim _ k (λy hy=>by unfold wsP at hy;simp only[List.mem_map]at hy;obtain⟨z,_,rfl⟩:=hy;rfl) (by omega)
 |x::r,k,i+1,h=>by
  show upI lim ((x.nm,3,(x.params.length:Int))::wsP r) k=_
  rw[zbN,if_pos (.inr (by omega)),znh lim r (k+1) i (by omega)];rfl
theorem zfT (t:Tre):∀x∈wsA t,x.2.1≠3/\x.2.1≠4:=by
 intro x hx;unfold wsA at hx;simp only[List.mem_append,List.mem_map]at hx;rcases hx with⟨y,_,rfl⟩|⟨y,_,rfl⟩<;>exact⟨by simp,by simp⟩
theorem zni (t:Tre)(i:Nat):upI ((t.vars.length:Int)+t.arrays.length+i) (wsA t++wsP t.procs) 0=wsA t++wsP (t.procs.take i):=by
 have hl:(wsA t).length =t.vars.length+t.arrays.length:=by simp[wsA]
 rw[zju,zjt _ (wsA t) 0 (λj x hx=> .inl (zfT t x (List.mem_of_getElem? hx)).1),znh _ _ _ i (by rw[hl];omega)]
theorem zgF {nm:ByteArray}:∀ {ws:Wl} {v:Int×Int},fdW nm ws=some v->∃x∈ws,x.2=v
 | [],v,h=>by simp[fdW]at h
 |x::r,v,h=>by
  unfold fdW at h;split at h
  ·exact⟨x,by simp,Option.some.inj h⟩
  ·obtain⟨y,hy,e⟩:=zgF h;exact⟨y,by simp[hy],e⟩
structure Inv (t:Tre)(ws:Wl)(i:Nat)(kn:Kn):Prop where
 kw:KnW kn (wsA t++wsP (t.procs.take i))
 all:∀nm:ByteArray,(kn nm.data.toList).isSome =(fdW nm ws).isSome
theorem Inv.zero {t:Tre}{ws:Wl}{kn:Kn}(hw:ws=wsA t++wsP t.procs)(h:KnD kn ws):Inv t ws 0 kn:=by
 refine⟨λnm=>?_,h.some⟩;have h1:=h nm;rw[hw,zcS]at h1;rw[List.take_zero,show wsP []= []from rfl,List.append_nil];cases e:fdW nm (wsA t)with
 |none=>
  rw[e]at h1;cases e2:fdW nm (wsP t.procs)with
  |none=>rw[e2]at h1;exact .inl h1
  |some v=>
   rw[e2]at h1;obtain⟨x,hx,rfl⟩:=zgF e2;unfold wsP at hx;simp only[List.mem_map]at hx;obtain⟨z,_,rfl⟩:=hx;exact .inr ⟨0,h1⟩
 |some v=>
  rw[e]at h1;obtain⟨x,hx,rfl⟩:=zgF e;have:=zfT t x hx;simp only[Option.map_some,if_neg this.1]at h1;exact⟨h1,this.2⟩
theorem Inv.next {t:Tre}{ws:Wl}{i:Nat}{kn:Kn}(hw:ws=wsA t++wsP t.procs)(hp:Apt ws)(h:Inv t ws i kn){p:Prc}(hi:t.procs[i]?=some p):Inv t ws (i+1) (kn.put p.nm.data.toList (3,(p.params.length:Int))):=by
 have hl:i < t.procs.length:=(List.getElem?_eq_some_iff.1 hi).1;have ht:wsP (t.procs.take (i+1))=wsP (t.procs.take i)++ [(p.nm,3,(p.params.length:Int))]:=by
  rw[List.take_add_one,hi];simp[wsP]
 have hx:ws[(wsA t).length +i]?=some (p.nm,3,(p.params.length:Int)):=by
  rw[hw,List.getElem?_append_right (by omega),Nat.add_sub_cancel_left];simp[wsP,hi]
 have hn:=hp _ _ hx;have Qu:ws.take ((wsA t).length +i)=wsA t++wsP (t.procs.take i):=by
  rw[hw,List.take_append,List.take_of_length_le (by omega),Nat.add_sub_cancel_left];simp[wsP]
 rw[Qu]at hn;refine⟨λnm=>?_,λnm=>?_⟩
 ·rw[ht,<-List.append_assoc,zcS,ze4];unfold Kn.put;by_cases e:nm.data.toList=p.nm.data.toList
  ·have hf:fdW nm (wsA t++wsP (t.procs.take i))=none:=by
    have e2:∀us:Wl,fdW nm us=fdW p.nm us:=by
     intro us
     induction us with
     |nil=>rfl
     |cons x r ih=>
      unfold fdW;have e3:nm.toList=p.nm.toList:=by simp only[ByteArray.toList_eq];exact e
      rw[ih,e3]
    rw[e2];simpa using hn
   rw[hf,if_pos e,if_pos e];exact⟨rfl,by simp⟩
  ·rw[if_neg e,if_neg e];have:=h.kw nm;cases hf:fdW nm (wsA t++wsP (t.procs.take i))with
   |none=>rw[hf]at this;exact this
   |some v=>rw[hf]at this;exact this
 ·unfold Kn.put;by_cases e:nm.data.toList=p.nm.data.toList
  ·rw[if_pos e,<-h.all nm,e,h.all p.nm];have e2:(fdW p.nm ws).isSome =true:=by
    have hm:∀(us:Wl),(p.nm,3,(p.params.length:Int))∈us->(fdW p.nm us).isSome =true:=by
     intro us
     induction us with
     |nil=>intro h;simp at h
     |cons x r ih=>
      intro h;unfold fdW;rcases List.mem_cons.1 h with rfl|h
      ·simp
      ·split
       ·rfl
       ·exact ih h
    exact hm ws (List.mem_of_getElem? hx)
   rw[e2];rfl
  ·rw[if_neg e];exact h.all nm
structure InvP (ws own:Wl)(kn:Kn):Prop where
 kw:KnW kn own
 all:∀nm:ByteArray,(kn nm.data.toList).isSome =true↔((fdW nm ws).isSome =true\/(fdW nm own).isSome =true)
structure ParR (ws:Wl)(s:Cks)(q:Wl×(Int×Int)):Prop where
 ok:q.2.2=0->s.2=(0,0)/\InvP ws q.1 s.1
 no:q.2.2≠0->s.2=q.2
theorem zfU (ws:Wl):∀(xs:List Va)(s:Cks)(own:Wl),s.2=(0,0)->InvP ws own s.1->ParR ws (zaF (1,0) xs s) (rpV ws xs own)
 | [],s,own,he,h=>⟨λ_=>⟨he,h⟩,λe=>absurd rfl e⟩
 |x::r,s,own,he,h=>by
  unfold zaF rpV;have hk:=h.all x.nm;by_cases ha:0<=atI x.nm ws 0\/0<=atI x.nm own 0
  ·rw[if_pos ha];have h0:(s.1 x.nm.data.toList).isSome =true:=hk.2 (by rw[<-at_none,<-at_none];exact ha);have h1:(zbM s x.nm.data.toList x.at_ (1,0)).2 =(x.at_,111):=by
    show zcx s.1 s.2 _ _=_
    unfold zcx;rw[h0,he];rfl
   exact⟨λe=>absurd e (by simp),λ_=>by rw[zbH r _ (by rw[h1];simp),h1]⟩
  ·rw[if_neg ha];have h0:s.1 x.nm.data.toList=none:=by
    cases e:s.1 x.nm.data.toList with
    |none=>rfl
    |some v=>exact absurd (by rw[at_none,at_none];exact hk.1 (by rw[e];rfl)) ha
   rw[zb5 h0];refine zfU ws r _ _ he ⟨λnm=>?_,λnm=>?_⟩
   ·show match fdW nm (own++ [(x.nm,1,0)])with|none=>_|some v=>_
    have h2:=h.kw nm;rw[zcS,ze4];unfold Kn.put;by_cases e:nm.data.toList=x.nm.data.toList
    ·simp only[if_pos e];rw[e,h0]at h2;cases hf:fdW nm own with
     |none=>exact⟨rfl,by decide⟩
     |some v=>rw[hf]at h2;exact absurd h2.1 (by simp)
    ·simp only[if_neg e];cases hf:fdW nm own with
     |none=>rw[hf]at h2;exact h2
     |some v=>rw[hf]at h2;exact h2
   ·have h2:=h.all nm;rw[zcS,ze4];unfold Kn.put;by_cases e:nm.data.toList=x.nm.data.toList
    ·simp only[if_pos e];cases hf:fdW nm own<;>simp
    ·simp only[if_neg e];rw[h2];cases hf:fdW nm own<;>simp
theorem zla {t:Tre}{ws:Wl}{i:Nat}{s:Cks}(hw:ws=wsA t++wsP t.procs)(h:Inv t ws i s.1)(he:s.2=(0,0))(p:Prc)(ho:okS p.body=true):
  (zbt p.nm.data.toList p.params p.body p.at_ s).2 =rp1 ws (upI ((t.vars.length:Int)+t.arrays.length+i) ws 0) p:=by
 have jY:upI ((t.vars.length:Int)+t.arrays.length+i) ws 0=wsA t++wsP (t.procs.take i):=by rw[hw];exact zni t i
 rw[jY];unfold rp1 zbt;simp only;by_cases h4:4 < (p.params.length:Int)
 ·rw[if_pos h4,he];have e:decide ((p.params.length:Int)<=4)=false:=by simp;omega
  rw[e];have h1:askC (0,0) false (p.at_,4)=(p.at_,(4:Int)):=rfl;rw[h1];have h2:=zbH (v:=(1,0)) p.params (s.1,(p.at_,(4:Int))) (by simp);rw[if_neg (by rw[h2];simp),h2]
 ·rw[if_neg h4,he];have e:decide ((p.params.length:Int)<=4)=true:=by simp;omega
  rw[e,zgz];have hP:=zfU ws p.params (s.1,((0:Int),(0:Int))) (wsA t++wsP (t.procs.take i)) rfl ⟨h.kw,λnm=>?_⟩
  ·by_cases e1:(rpV ws p.params (wsA t++wsP (t.procs.take i))).2.2 =0
   ·obtain⟨g1,g2⟩:=hP.ok e1;rw[if_pos e1,if_pos (by rw[g1])];simp only;rw[g1];exact zev g2.kw _ ho
   ·have g:=hP.no e1;rw[if_neg e1,if_neg (by rw[g];exact e1),g]
  ·rw[h.all nm];refine⟨λh=> .inl h,λh'=>h'.elim id λh2=>?_⟩;rw[<-h.all nm];have:=h.kw nm;cases hf:fdW nm (wsA t++wsP (t.procs.take i))with
   |none=>rw[hf]at h2;exact absurd h2 (by simp)
   |some v=>rw[hf]at this;rw[this.1];rfl
theorem zfV {t:Tre}{ws:Wl}(hw:ws=wsA t++wsP t.procs)(TC:Apt ws):∀(xs:List Prc)(i:Nat)(s:Cks),t.procs.drop i=xs->Inv t ws i s.1->s.2=(0,0)->(∀p∈xs,okS p.body=true)->
  ((rpP ((t.vars.length:Int)+t.arrays.length) ws xs i).2 =0->(zap xs s).2 =false/\(zap xs s).1.2 =(0,0)/\KnW (zap xs s).1.1 ws)/\
  ((rpP ((t.vars.length:Int)+t.arrays.length) ws xs i).2 ≠0->(zap xs s).2 =true/\(zap xs s).1.2 =rpP ((t.vars.length:Int)+t.arrays.length) ws xs i)
 | [],i,s,hd,h,he,_=>⟨λ_=>⟨rfl,he,by
   have h1:=h.kw;have hl:t.procs.length<=i:=by
    rcases Nat.lt_or_ge i t.procs.length with h|h
    ·rw[List.drop_eq_getElem_cons h]at hd;cases hd
    ·exact h
   rw[List.take_of_length_le hl,<-hw]at h1;exact h1⟩,λe=>absurd rfl e⟩
 |p::r,i,s,hd,h,he,ho=>by
  have h1:=zla hw h he p (ho p (by simp));have hi:t.procs[i]?=some p:=zbW hd;have xf:t.procs.drop (i+1)=r:=by
   have:=congrArg List.tail hd;simpa using this
  unfold rpP zap;by_cases e:(rp1 ws (upI ((t.vars.length:Int)+t.arrays.length+i) ws 0) p).2 =0
  ·rw[if_pos e,if_pos (by rw[h1];exact e)];have h2:zbt p.nm.data.toList p.params p.body p.at_ s=(s.1.put p.nm.data.toList (3,(p.params.length:Int)),s.2):=ze1 (zg9 (by rw[h1];exact e)) (by rw[he]);rw[h2];exact zfV hw TC r (i+1) _ xf (h.next hw TC hi) he λq hq=>ho q (by simp[hq])
  ·rw[if_neg e,if_neg (by rw[h1];exact e)];exact⟨λe'=>absurd e' e,λ_=>⟨rfl,h1⟩⟩
theorem zlb (t:Tre):zbE t=rtI (okTr t) (fewT t) t:=by
 unfold zbE rtI;by_cases h1:okTr t=true
 rotate_left
 ·rw[if_neg h1,if_neg h1]
 rw[if_pos h1,if_pos h1];by_cases h2:fewT t=true
 rotate_left
 ·rw[if_neg h2,if_neg h2]
 rw[if_pos h2,if_pos h2];have hD:=zk8 t;have G9:=h1;unfold okTr at G9;simp only[Bool.and_eq_true]at G9;have Qd:∀p∈t.procs,okS p.body=true:=λp hp=>by
  have:=G9.2;unfold okPs zbm at this;have:=List.all_eq_true.1 this p hp;simp only[Bool.and_eq_true]at this;exact this.2
 by_cases e1:(rdT t).2.2 =0
 ·rw[if_pos e1];obtain⟨g1,g2⟩:=hD.ok e1;obtain⟨g3,g4⟩:=zk9 e1;obtain⟨k1,k2⟩:=zfV g4 g3 t.procs 0 (zbc t) rfl (Inv.zero g4 g2) g1 Qd;by_cases e2:(rpP ((t.vars.length:Int)+t.arrays.length) (rdT t).1 t.procs 0).2 =0
  ·obtain⟨m1,m2,m3⟩:=k1 e2;rw[if_pos e2,m1,m2];simp only[Bool.false_eq_true,if_false];exact zev m3 _ G9.1.1.2
  ·obtain⟨m1,m2⟩:=k2 e2;rw[if_neg e2,m1,m2];simp
 ·rw[if_neg e1];have g:=hD.no e1;have GU:(zbc t).2.2 ≠0:=by rw[g];exact e1
  cases hp:t.procs with
  |nil=>
   show(if false=true then _ else zan (zbc t).1 t.main (zbc t).2)=_
   simp only[Bool.false_eq_true,if_false];rw[zay _ _ GU,g]
  |cons p r=>
   have hz:=zdI (nm:=p.nm.data.toList) (ps:=p.params) (body:=p.body) (at_:=p.at_) GU;have hs:(zbt p.nm.data.toList p.params p.body p.at_ (zbc t)).2 =(zbc t).2 :=by
    have hv:(zaF (1,0) p.params ((zbc t).1,askC (zbc t).2 (decide ((p.params.length:Int)<=4)) (p.at_,4))).2 =(zbc t).2 :=by
     rw[zbH _ _ (by rw[zaG GU];exact GU),zaG GU]
    unfold zbt;simp only;rw[if_neg (by rw[hv];exact GU),hv]
   unfold zap;rw[if_neg hz];simp only[if_true];rw[hs,g]
set_option maxRecDepth 100000 in
set_option maxHeartbeats 3200000 in
theorem zjv (t:Tre)(w:World)(S:Nat->Prop)(Z:Prop)(Av Aa Ap Am:Option Addr)(cv ca cp cm:Nat)(hS:∀b,S b->b < w.heap.size)(Ht:SzT t)(hx:TrR w S Z t Av Aa Ap Am cv ca cp cm):
  Calls Tryz.prog 31 #[trV t Av Aa Ap Am cv ca cp cm] w (AtE (zbE t) w):=by
 rw[zlb];obtain⟨Q,hQ⟩:=nmq (rtI (okTr t) (fewT t) t);rw[<-hQ];have Hi:Fr NoT w (w.alloc (.cells #[.slice Av t.vars.length cv,.slice Aa t.arrays.length ca,.slice Ap t.procs.length cp,.slice Am t.main.len cm] 27)):=(Fr.refl _ _).alloc _;have hX:=λ(W:World)(hf:Fr NoT w W)=>hx.keep (hf.same λb hb=>⟨hS b hb,id⟩);have KN:=λ(W:World)(hf:Fr NoT w W) b (hb:S b)=>ltq (hS b hb) hf.size;have h1:=zkU t _ S Z Av Aa Ap Am cv ca cp cm (KN _ Hi) Ht (hX _ Hi);have h2:=λ(hf:fewT t=true)(W:World)(h:Fr NoT w W)=>ze3 t W S Z Av Aa Ap Am cv ca cp cm (KN _ h) (hX _ h) (by have:=zeX hf;omega);have h3:=λ(hf:fewT t=true)(W:World)(h:Fr NoT w W)(An Ak Am':Option Addr)(cn ck cm':Nat)(hw:WdR W (rdT t).1 An Ak Am' cn ck cm')=>zh3 t (rdT t).1 W S Z Av Aa Ap Am An Ak Am' cv ca cp cm cn ck cm' (KN _ h) (hX _ h) hw (by have:=zeX hf;have:=zmB t;omega);have h4:=λ(W:World)(h:Fr NoT w W)(An Ak Am':Option Addr)(cn ck cm':Nat)(hw:WdR W (rdT t).1 An Ak Am' cn ck cm')=>zer (rdT t).1 An Ak Am' cn ck cm' t.main W S Z Am cm hw (KN _ h) ((hX _ h).main);have l1:t.vars.length<=9223372036854775807:=leq9 hx.vars.1 hx.vars.2.1.1;have l2:t.arrays.length<=9223372036854775807:=leq9 hx.arrays.1 hx.arrays.2.1.1;have l3:t.procs.length<=9223372036854775807:=leq9 hx.procs.1 hx.procs.2.1.1;unfold rtI at hQ;have Li:fewT t=(decide ((t.vars.length:Int)<=12)&&decide ((t.arrays.length:Int)<=4)&&decide ((t.procs.length:Int)<=8)):=rfl;obtain⟨R,hR⟩:=nmq (rdT t);rw[<-hR]at hQ h2 h3 h4
 obtain⟨P,hP⟩:=nmq (rpP ((t.vars.length:Int)+t.arrays.length) R.1 t.procs 0);rw[<-hP]at hQ h3;obtain⟨M,hM⟩:=nmq (stsI R.1 t.main);rw[<-hM]at hQ h4;unfold trV at h1 h2 h3 ⊢;obtain⟨n1,Gk⟩:=nmq t.vars.length;obtain⟨n2,Gu⟩:=nmq t.arrays.length;obtain⟨n3,GJ⟩:=nmq t.procs.length;obtain⟨n4,GV⟩:=nmq t.main.len;rw[<-Gk]at l1 Li;rw[<-Gu]at l2 Li;rw[<-GJ]at l3 Li;rw[<-Gk,<-Gu,<-GJ,<-GV]at h1 h2 h3 Hi ⊢;rw[<-GV]at h4;have Gv:=hdq (Bk.new w 27 #[.slice Av n1 cv,.slice Aa n2 ca,.slice Ap n3 cp,.slice Am n4 cm]);have H1:=hdq h1;have H2:=hdq h2;have H3:=hdq h3;have H4:=hdq h4;have Hn:=hdq Hi;have HQ:=hdq hQ;have Yy:=hdq Li;obtain⟨ok,G9⟩:=nmq (okTr t);rw[<-G9]at H1 HQ;obtain⟨few,M2⟩:=nmq (fewT t);rw[<-M2]at H2 H3 HQ Yy;clear hX KN h1 h2 h3 h4 hx Ht hS Hi hQ Li Gk Gu GJ GV G9 M2 hR hP hM;go_enter Tryz.func31,Tryz.ntmps31;go_wp2_with fail;refine H1.mono ?_;rintro _ w2 ⟨rfl,hf⟩;have Hy:=hdq (Hn.trans hf);have FX:=hdq (Gv.fr0 hf);obtain⟨x0,x1,x2,x3,Hv⟩:=bk4 (Gv.fr0 hf);clear hf;cases ok
 ·have HN:=hdq (show Q=(0,8)from HQ.out);go_wp2_with fail
  go_ret2
  exact⟨by rw[HN.out];rfl,Hy.out⟩
 have TE:=hdq (show Q=if few=true then(if R.2.2=0 then if P.2=0 then M else P else R.2)else(0,4)from HQ.out);clear HQ;cases few
 ·have HN:=hdq (show Q=(0,4)from TE.out);have Li:=Yy.out;have PC:(decide ((12:Int) < n1)=true)\/(decide ((12:Int) < n1)=false/\decide ((4:Int) < n2)=true)\/(decide ((12:Int) < n1)=false/\decide ((4:Int) < n2)=false/\decide ((8:Int) < n3)=true):=by
   have Li:=Li.symm;simp only[Bool.and_eq_false_iff,decide_eq_false_iff_not,decide_eq_true_eq]at Li ⊢;omega
  clear Li TE;rcases PC with e1|⟨e1,e2⟩|⟨e1,e2,e3⟩;all_goals
   go_wp2_with fail
   go_ret2
   exact⟨by rw[HN.out];rfl,Hy.out⟩
 have Ha:decide ((12:Int) < n1)=false/\decide ((4:Int) < n2)=false/\decide ((8:Int) < n3)=false:=by
  have Li:=Yy.symm;simp only[Bool.and_eq_true,decide_eq_false_iff_not,decide_eq_true_eq]at Li ⊢;omega
 obtain⟨e1,e2,e3⟩:=Ha;have HQ:=hdq (show Q=if R.2.2=0 then if P.2=0 then M else P else R.2 from TE.out);clear TE;go_wp2_with fail;refine(H2 trivial _ Hy.out).mono ?_;rintro _ w3 ⟨An,Ak,Am',cn,ck,cm',rfl,Mz,hf⟩;have Gc:=hdq (Hy.trans hf);have Kl:=hdq Mz;have F5:=hdq (FX.fr0 hf);obtain⟨ws,z1,z2⟩:=R;simp only at HQ H3 H4 Kl;unfold wdV at H3 H4 ⊢;obtain⟨m,hm⟩:=nmq ws.length;rw[<-hm]at H3 H4 ⊢;clear x0 x1 x2 x3 Hv hf Mz hm e1 e2 e3;obtain⟨w4,G7⟩:=nmq (w3.alloc (.cells #[.slice An m cn,.slice Ak m ck,.slice Am' m cm'] 164));have Hm:Bk w4 w3.heap.size 164 #[.slice An m cn,.slice Ak m ck,.slice Am' m cm']:=by rw[G7];exact Bk.new _ _ _
 have GB:Fr NoT w3 w4:=by rw[G7];exact(Fr.refl _ _).alloc _
 have GL:=hdq (Gc.trans GB);have Yz:=hdq (Kl.keep GB);have GO:=hdq Hm;have KO:=hdq (F5.fr0 GB);have LU:=hdq G7;obtain⟨x0,x1,x2,x3,Hv⟩:=bk4 F5.out;clear Hm GB G7;by_cases hz:z2=0
 rotate_left
 ·have HN:=hdq (show Q=(z1,z2)from by rw[HQ.out,if_neg hz]);have e1:(z2 != 0)=true:=by simpa using hz
  clear HQ hz;go_wp2_with fail
  go_ret2
  exact⟨by rw[HN.out];rfl,by rw[<-LU.out];exact GL.out⟩
 have TE:=hdq (show Q=if P.2=0 then M else P from by rw[HQ.out,if_pos hz]);have e1:(z2 != 0)=false:=by simpa using hz
 subst hz;have H5:=hdq (H3 trivial _ GL.out An Ak Am' cn ck cm' Yz.out);clear HQ H3;go_wp2_with fail;rw[<-LU.out];refine H5.mono ?_;rintro _ w5 ⟨rfl,hf⟩;obtain⟨p1,p2⟩:=P;have Hx:=hdq (GL.trans hf);have Hm:=GO.fr0 hf;clear x0 x1 x2 x3 Hv;obtain⟨x0,x1,x2,x3,Hv⟩:=bk4 (KO.fr0 hf);have y0:=Hm.cell 0;have y1:=Hm.cell 1;have y2:=Hm.cell 2;have Gl:=Hm.lt;simp only[getsL]at y0 y1 y2;have H6:=hdq (H4 _ Hx.out An Ak Am' cn ck cm' (Yz.keep hf));clear hf Hm;by_cases hz:p2=0
 rotate_left
 ·have HN:=hdq (show Q=(p1,p2)from by rw[TE.out,if_neg hz]);have e1:(p2 != 0)=true:=by simpa using hz
  clear TE hz;go_wp2_with fail
  go_ret2
  exact⟨by rw[HN.out];rfl,Hx.out⟩
 have HN:=hdq (show Q=M from by rw[TE.out,if_pos hz]);have e1:(p2 != 0)=false:=by simpa using hz
 subst hz;clear TE;go_wp2_with fail;refine H6.mono ?_;rintro _ w6 ⟨rfl,hf⟩;obtain⟨m1,m2⟩:=M;go_wp2_with fail
 go_ret2
 exact⟨by rw[HN.out];rfl,Hx.trans hf⟩
