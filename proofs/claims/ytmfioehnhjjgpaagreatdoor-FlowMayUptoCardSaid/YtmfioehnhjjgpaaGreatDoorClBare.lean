/-
  Plain laws of names: places turn no error. No program.
-/
import Derived.Test.YtmfioehnhjjgpaaGreatDoorJgPbRow
set_option linter.unusedVariables false
set_option linter.unusedSimpArgs false
namespace Go.Proofs.YtmfioehnhjjgpaaGreatDoor
open Go.RowKit Go.Shelf Go.Maps

theorem zfl {st st' p p':Int×Int} {is:Bool} (h:st.2=st'.2) (hp:p.2=p'.2):(askC st is p).2 =(askC st' is p').2 :=by
 cases is with
 |true=>exact h
 |false=>
  show(zdC st p).2 =(zdC st' p').2
  unfold zdC
  rw[←h]
  by_cases e:st.2=0
  ·rw[if_pos e,if_pos e];exact hp
  ·rw[if_neg e,if_neg e];exact h
theorem zhg {kn:Kn} {st st':Int×Int} {t:List UInt8} {k a a':Int} (h:st.2=st'.2):(useC kn st t k a).2 =(useC kn st' t k a').2 :=zfl (zfl h rfl) rfl
theorem zdL {kn:Kn}:∀(xs:Exs) (st st':Int×Int),st.2=st'.2→(zaI kn xs st).2 =(zaI kn xs.bare st').2
 | .nil,st,st',h=>h
 | .cons k nm m args a r,st,st',h=>by
  unfold zaI Exs.bare
  refine zdL r _ _ (zdL args _ _ ?_)
  by_cases e:k=2
  ·rw[if_pos e,if_pos e];exact zhg h
  ·rw[if_neg e,if_neg e]
   by_cases e2:k=3
   ·rw[if_pos e2,if_pos e2];exact zhg h
   ·rw[if_neg e2,if_neg e2];exact h
theorem zf2 {kn:Kn}:∀(xs:Cds) (st st':Int×Int),st.2=st'.2→(zaV kn xs st).2 =(zaV kn xs.bare st').2
 | .nil,st,st',h=>h
 | .cons k args of_ a r,st,st',h=>by
  unfold zaV Cds.bare
  exact zf2 r _ _ (zf2 of_ _ _ (zdL args _ _ h))
theorem zpz {kn:Kn} {k:Int} {t:List UInt8} {na a a':Int} {st st':Int×Int} (h:st.2=st'.2):(zea kn k t na a st).2 =(zea kn k t na a' st').2 :=by
 unfold zea
 by_cases e1:k=2∨k=4
 ·rw[if_pos e1,if_pos e1];exact zhg h
 ·rw[if_neg e1,if_neg e1]
  by_cases e2:k=3
  ·rw[if_pos e2,if_pos e2];exact zhg h
  ·rw[if_neg e2,if_neg e2]
   by_cases e3:k=9
   ·rw[if_pos e3,if_pos e3];exact zfl (zhg h) rfl
   ·rw[if_neg e3,if_neg e3];exact h
theorem zc6 {kn:Kn}:∀(xs:Sts) (st st':Int×Int),st.2=st'.2→(zap kn xs st).2 =(zap kn xs.bare st').2
 | .nil,st,st',h=>h
 | .cons k nm args cond body els a r,st,st',h=>by
  unfold zap Sts.bare
  refine zc6 r _ _ (zc6 els _ _ (zc6 body _ _ (zf2 cond _ _ (zdL args _ _ ?_))))
  rw[zbf]
  exact zpz h
def Sm (s s':Cks):Prop:=s.1=s'.1∧s.2.2=s'.2.2
theorem zh1 {s s':Cks} {t:List UInt8} {a a':Int} {v:Int×Int} (h:Sm s s'):Sm (zbL s t a v) (zbL s' t a' v):=by
 unfold zbL Sm zkF zfD
 rw[←h.1]
 exact⟨rfl,zfl h.2 rfl⟩
theorem zf3 {v:Int×Int}:∀(xs:List Va) (s s':Cks),Sm s s'→Sm (zaJ v xs s) (zaJ v (xs.map Va.bare) s')
 | [],s,s',h=>h
 |x::r,s,s',h=>zf3 r _ _ (zh1 h)
theorem zhh:∀(xs:List Arr) (s s':Cks),Sm s s'→Sm (za3 xs s) (za3 (xs.map Arr.bare) s')
 | [],s,s',h=>h
 |x::r,s,s',h=>by
  refine zhh r _ _ ?_
  have h1:Sm (zbL s x.nm.data.toList x.at_ (2,0)) (zbL s' x.nm.data.toList 0 (2,0)):=zh1 h
  exact⟨h1.1,zfl h1.2 rfl⟩
theorem zhi:∀(xs:List Prc) (s s':Cks),Sm s s'→Sm (za4 xs s) (za4 (xs.map Prc.bare) s')
 | [],s,s',h=>h
 |x::r,s,s',h=>zhi r _ _ (zh1 h)
theorem zlW:∀(xs:List Va) (kn:Kn),zcx xs kn=zcx (xs.map Va.bare) kn
 | [],kn=>rfl
 |x::r,kn=>zlW r _
theorem zpA {x:Prc} {s s':Cks} (h:Sm s s'):Sm (zbF x.nm.data.toList x.params x.body x.at_ s) (zbF x.bare.nm.data.toList x.bare.params x.bare.body x.bare.at_ s'):=by
 have hl:x.bare.params.length=x.params.length:=by simp[Prc.bare]
 unfold zbF
 rw[hl]
 have h1:Sm (zaJ (1,0) x.params (s.1,askC s.2 (decide ((x.params.length:Int)≤4)) (x.at_,4))) (zaJ (1,0) (x.params.map Va.bare) (s'.1,askC s'.2 (decide ((x.params.length:Int)≤4)) (x.bare.at_,4))):=zf3 _ _ _ ⟨h.1,zfl h.2 rfl⟩
 show Sm (if _ then _ else _) (if(zaJ (1,0) (x.params.map Va.bare) _).2.2 =0 then _ else _)
 by_cases e:(zaJ (1,0) x.params (s.1,askC s.2 (decide ((x.params.length:Int)≤4)) (x.at_,4))).2.2 =0
 ·rw[if_pos e,if_pos (h1.2▸e)]
  refine⟨?_,?_⟩
  ·show(zcx x.params _).put _ _=(zcx (x.params.map Va.bare) _).put _ _
   rw[zlW,h1.1]
   rfl
  ·show(zap _ x.body _).2 =(zap _ x.body.bare _).2
   rw[h1.1]
   exact zc6 _ _ _ h1.2
 ·rw[if_neg e,if_neg (h1.2▸e)]
  exact h1
theorem ziO:∀(xs:List Prc) (s s':Cks),Sm s s'→Sm (zak xs s).1 (zak (xs.map Prc.bare) s').1 ∧(zak xs s).2 =(zak (xs.map Prc.bare) s').2
 | [],s,s',h=>⟨h,rfl⟩
 |x::r,s,s',h=>by
  have h1:=zpA (x:=x) h
  rw[List.map_cons]
  unfold zak
  by_cases e:(zbF x.nm.data.toList x.params x.body x.at_ s).2.2 =0
  ·rw[if_pos e,if_pos (h1.2▸e)]
   exact ziO r _ _ h1
  ·rw[if_neg e,if_neg (h1.2▸e)]
   exact⟨h1,rfl⟩
theorem znG:∀xs:Exs,okX xs.bare=okX xs
 | .nil =>rfl
 | .cons k nm m args a r=>by simp only[Exs.bare,okX,zbf,znG args,znG r]
theorem zpB:∀xs:Cds,okC xs.bare=okC xs
 | .nil =>rfl
 | .cons k args of_ a r=>by simp only[Cds.bare,okC,zbf,zck,znG args,zpB of_,zpB r]
theorem zlX:∀xs:Sts,okS xs.bare=okS xs
 | .nil =>rfl
 | .cons k nm args cond body els a r=>by simp only[Sts.bare,okS,zbf,zck,zbS,znG args,zpB cond,zlX body,zlX els,zlX r]
theorem zoz (xs:List Va):okVs (xs.map Va.bare)=okVs xs:=by
 unfold okVs zcw
 rw[List.all_map]
 rfl
theorem zqT (t:Tre):okTr t.bare=okTr t:=by
 unfold okTr okAs okPs zdg zb9
 simp only[Tre.bare,zoz,zlX,List.all_map]
 congr 1
 refine List.all_congr rfl fun x=>?_
 simp only[Function.comp,Prc.bare,zoz,zlX]
theorem zpC (t:Tre):(zbM t).2 =(zbM t.bare).2 :=by
 have hf:fewT t.bare=fewT t:=by unfold fewT Tre.bare;simp
 unfold zbM
 rw[zqT,hf]
 by_cases h1:okTr t=true
 ·rw[if_pos h1,if_pos h1]
  by_cases h2:fewT t=true
  ·rw[if_pos h2,if_pos h2]
   have hd:Sm (zbw t) (zbw t.bare):=zhi _ _ _ (zhh _ _ _ (zf3 _ _ _ ⟨rfl,rfl⟩))
   obtain⟨h3,h4⟩:=ziO t.procs _ _ hd
   show _=(if(zak (t.procs.map Prc.bare) (zbw t.bare)).2 =true then _ else zap _ t.main.bare _).2
   rw[←h4]
   by_cases h5:(zak t.procs (zbw t)).2 =true
   ·rw[if_pos h5,if_pos h5];exact h3.2
   ·rw[if_neg h5,if_neg h5]
    show _=(zap (zak (t.procs.map Prc.bare) (zbw t.bare)).1.1 t.main.bare (zak (t.procs.map Prc.bare) (zbw t.bare)).1.2).2
    rw[←h3.1]
    exact zc6 _ _ _ h3.2
  ·rw[if_neg h2,if_neg h2]
 ·rw[if_neg h1,if_neg h1]
end Go.Proofs.YtmfioehnhjjgpaaGreatDoor
