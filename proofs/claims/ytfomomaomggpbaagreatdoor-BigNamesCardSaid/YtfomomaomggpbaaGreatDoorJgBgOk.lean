/-
  big: what check.Tree has shown is what may be made, and run. No walk.
-/
import Derived.Test.YtfomomaomggpbaaGreatDoorBgNms
import Derived.Test.YtfomomaomggpbaaGreatDoorJgCl
set_option linter.unusedVariables false
set_option linter.unusedSimpArgs false
namespace Go.Proofs.YtfomomaomggpbaaGreatDoor
open Go.RowKit Go.Shelf

structure KnB9 (n:Bn) (kd:List UInt8→Prop) (ps:List (List UInt8)) (kn:Kn):Prop where
 sc:∀t,isK kn t 1→(∃k,posI ps t=some k)∨∃i,posI n.vars t=some i
 ar:∀t,isK kn t 2→∃i,posI n.arrs t=some i
 pr:∀t na,kn t=some (3,na)→kd t∧∃p,n.procs t=some p∧(p.params.length:Int)=na
 gl:∀t∈n.vars,kn t≠none
section
variable {n:Bn} {kd:List UInt8→Prop} {ps:List (List UInt8)} {kn:Kn}
theorem KnB9.put (h:KnB9 n kd [] kn) {x:Prc} (hx:n.procs x.nm.data.toList=some x):KnB9 n (fun y=>kd y∨y=x.nm.data.toList) [] (kn.put x.nm.data.toList (3,x.params.length)):=by
 have hk:∀t (k:Int),k≠3→isK (kn.put x.nm.data.toList (3,x.params.length)) t k→isK kn t k:=fun t k hk hi=>by
  obtain⟨v,hv⟩:=hi
  unfold Kn.put at hv
  by_cases e:t=x.nm.data.toList
  ·rw[if_pos e]at hv
   simp only[Option.some.injEq,Prod.mk.injEq]at hv
   exact absurd hv.1.symm hk
  ·rw[if_neg e]at hv
   exact⟨v,hv⟩
 refine⟨fun t hi=>h.sc t (hk t 1 (by decide) hi),fun t hi=>h.ar t (hk t 2 (by decide) hi),fun t na e=>?_,fun t ht=>?_⟩
 ·unfold Kn.put at e
  by_cases e2:t=x.nm.data.toList
  ·rw[if_pos e2]at e
   simp only[Option.some.injEq,Prod.mk.injEq]at e
   exact⟨.inr e2,x,by rw[e2];exact hx,e.2⟩
  ·rw[if_neg e2]at e
   obtain⟨h1,h2⟩:=h.pr t na e
   exact⟨.inl h1,h2⟩
 ·unfold Kn.put
  split
  ·simp
  ·exact h.gl t ht
theorem KnB9.own (h:KnB9 n kd [] kn) (ps:List (List UInt8)):KnB9 n kd ps (putL (1,0) ps kn):=by
 have hk:∀t v,(putL (1,0) ps kn) t=some v→(t∈ps∧v=(1,0))∨kn t=some v:=fun t v hv=>by
  unfold putL at hv
  by_cases e:t∈ps
  ·rw[if_pos e]at hv
   exact .inl ⟨e,(Option.some.inj hv).symm⟩
  ·rw[if_neg e]at hv
   exact .inr hv
 refine⟨fun t hi=>?_,fun t hi=>?_,fun t na e=>?_,fun t ht=>?_⟩
 ·obtain⟨v,hv⟩:=hi
  rcases hk _ _ hv with⟨hm,_⟩|hv
  ·exact .inl (posI_is hm)
  ·rcases h.sc t ⟨v,hv⟩with⟨k,hk⟩|hi
   ·simp[posI]at hk
   ·exact .inr hi
 ·obtain⟨v,hv⟩:=hi
  rcases hk _ _ hv with⟨_,e⟩|hv
  ·simp at e
  ·exact h.ar t ⟨v,hv⟩
 ·rcases hk _ _ e with⟨_,e⟩|hv
  ·simp at e
  ·exact h.pr t na hv
 ·unfold putL
  split
  ·simp
  ·exact h.gl t ht
theorem wfX_of (hk:KnB9 n kd ps kn):∀xs,okX xs=true→okUX kn xs→szX xs→wfX n ps xs
 | .nil,_,_,_=>trivial
 | .cons k nm m args at_ r,h,⟨u1,u2,u3,u4⟩,⟨z1,z2,z3⟩=>by
  unfold okX at h
  simp only[Bool.and_eq_true,decide_eq_true_eq,beq_iff_eq]at h
  obtain⟨⟨⟨⟨⟨⟨⟨h1,h2⟩,h3⟩,h4⟩,h5⟩,h6⟩,h7⟩,h8⟩:=h
  refine⟨⟨⟨h1,h2⟩,z1,fun e=>hk.sc _ (u1 e),fun e=>hk.ar _ (u2 e),fun e=>?_,fun e=>?_,fun e=>?_⟩,wfX_of hk args h7 u3 z2,wfX_of hk r h8 u4 z3⟩
  ·rcases(show k=1∨k=2 by omega)with rfl|rfl<;>simpa[tabA,exShp]using h6
  ·rcases e with rfl|rfl<;>(simp[tabA,exShp]at h6;omega)
  ·rcases(show k=5∨k=6∨k=7∨k=8∨k=9∨k=10∨k=11 by omega)with rfl|rfl|rfl|rfl|rfl|rfl|rfl<;>(simp[tabA,exShp]at h6;omega)
theorem bgWfC_of (hk:KnB9 n kd ps kn):∀xs,okC xs=true→okUC kn xs→szC xs→wfCb n ps xs
 | .nil,_,_,_=>trivial
 | .cons k args of_ at_ r,h,⟨u1,u2,u3⟩,⟨z1,z2,z3⟩=>by
  unfold okC at h
  simp only[Bool.and_eq_true,decide_eq_true_eq,beq_iff_eq]at h
  obtain⟨⟨⟨⟨⟨⟨h1,h2⟩,h3⟩,h4⟩,h5⟩,h6⟩,h7⟩:=h
  refine⟨⟨⟨h1,h2⟩,fun e=>?_,fun e=>?_,fun e1 e2=>?_⟩,wfX_of hk args h5 u1 z1,bgWfC_of hk of_ h6 u2 z2,bgWfC_of hk r h7 u3 z3⟩
  ·subst e;simp[tabA,cdShp]at h4;omega
  ·rcases e with rfl|rfl<;>(simp[tabA,cdShp]at h4;omega)
  ·rcases(show k=3∨k=4∨k=5∨k=6∨k=7∨k=8 by omega)with rfl|rfl|rfl|rfl|rfl|rfl<;>(simp[tabA,cdShp]at h3;omega)
theorem bgWfS_of (hk:KnB9 n kd ps kn):∀xs,okS xs=true→okUS kn xs→szS xs→wfSb n kd ps xs
 | .nil,_,_,_=>trivial
 | .cons k nm args cond body els at_ r,h,⟨⟨u1,u2,u3⟩,v1,v2,v3,v4,v5⟩,⟨z0,z1,z2,z3,z4,z5⟩=>by
  unfold okS at h
  simp only[Bool.and_eq_true,decide_eq_true_eq,beq_iff_eq,Bool.or_eq_true]at h
  obtain⟨⟨⟨⟨⟨⟨⟨⟨⟨⟨⟨h1,h2⟩,h3⟩,h4⟩,h5⟩,h6⟩,h7⟩,h8⟩,h9⟩,h10⟩,h11⟩,h12⟩:=h
  refine⟨⟨⟨h1,h2⟩,z0,fun e=>hk.sc _ (u1 e),fun e=>hk.ar _ (u2 e),fun e=>?_,fun e=>?_,fun e1 e2=>?_,fun e=>?_⟩,wfX_of hk args h8 v1 z1,bgWfC_of hk cond h9 v2 z2,bgWfS_of hk body h10 v3 z3,bgWfS_of hk els h11 v4 z4,bgWfS_of hk r h12 v5 z5⟩
  ·subst e;simp[tabA,stShp]at h4;omega
  ·subst e;simp[tabA,stShp]at h4;omega
  ·rcases(show k=5∨k=6∨k=7∨k=8 by omega)with rfl|rfl|rfl|rfl<;>(simp[tabA,stShp]at h5;omega)
  ·obtain⟨p1,p,p2,p3⟩:=hk.pr _ _ (u3 e)
   exact⟨p1,p,p2,by omega⟩
end
def kdL (l:List Prc):List UInt8→Prop:=fun y=>∃x∈l,y=x.nm.data.toList
def wfPb (n:Bn) (kd:List UInt8→Prop) (x:Prc):Prop:=wfSb n kd (x.params.map (·.nm.data.toList)) x.body∧(x.params.map (·.nm.data.toList)).Nodup ∧∀nm∈x.params.map (·.nm.data.toList),posI n.vars nm=none
theorem KnB9.as {n:Bn} {kd kd':List UInt8→Prop} {ps:List (List UInt8)} {kn:Kn} (h:KnB9 n kd ps kn) (e:∀y,kd y→kd' y):KnB9 n kd' ps kn:=⟨h.sc,h.ar,fun t na ht=>⟨e _ (h.pr t na ht).1,(h.pr t na ht).2⟩,h.gl⟩
theorem procs_wf {n:Bn}:∀(zs ys:List Prc) (kn:Kn),KnB9 n (kdL ys) [] kn→okPs' zs kn→(∀x∈zs,okS x.body=true∧szS x.body∧n.procs x.nm.data.toList=some x)→
  (∀(i:Nat) x,zs[i]?=some x→wfPb n (kdL (ys++zs.take i)) x)∧KnB9 n (kdL (ys++zs)) [] (putPs zs kn)
 | [],ys,kn,hk,_,_=>⟨fun i x h=>by simp at h,by simpa[putPs]using hk⟩
 |x::r,ys,kn,hk,⟨⟨h1,h2,h3⟩,h4⟩,hx=>by
  obtain⟨o1,o2,o3⟩:=hx x (by simp)
  have hf:=freshL_iff.1 h2
  have hw:wfPb n (kdL ys) x:=by
   refine⟨bgWfS_of (hk.own _) x.body o1 h3 o2,hf.2,fun nm hm=>?_⟩
   cases e:posI n.vars nm with
   |none=>rfl
   |some i=>exact absurd (hf.1 nm hm) (hk.gl nm (List.mem_of_getElem? (posI_at e)))
  have hk2:KnB9 n (kdL (ys++ [x])) [] (kn.put x.nm.data.toList (3,x.params.length)):=(hk.put o3).as fun y hy=>by
   rcases hy with⟨z,hz,e⟩|e
   ·exact⟨z,by simp[hz],e⟩
   ·exact⟨x,by simp,e⟩
  obtain⟨g1,g2⟩:=procs_wf r (ys++ [x]) _ hk2 h4 fun z hz=>hx z (by simp[hz])
  refine⟨fun i z hi=>?_,by simpa[putPs]using g2⟩
  cases i with
  |zero=>
   simp only[List.getElem?_cons_zero,Option.some.injEq]at hi
   subst hi
   simpa using hw
  |succ i=>
   have:=g1 i z (by simpa using hi)
   simpa using this
theorem okPs_body {ps:List Prc} (h:okPs ps=true) {x:Prc} (hx:x∈ps):okS x.body=true:=by
 unfold okPs allPr at h
 have:=List.all_eq_true.1 h x hx
 simp only[Bool.and_eq_true]at this
 exact this.2
theorem wf_tree {t:Tre} (h:OkT t) (hz:SzT t):(∀(i:Nat) x,t.procs[i]?=some x→wfPb (bnOf t) (kdL (t.procs.take i)) x)∧wfSb (bnOf t) (kdL t.procs) [] t.main:=by
 have ht:=h.tree
 unfold okTr at ht
 simp only[Bool.and_eq_true]at ht
 obtain⟨⟨⟨t1,t2⟩,t3⟩,t4⟩:=ht
 have hp:=freshL_iff.1 h.procs
 have hk0:KnB9 (bnOf t) (kdL []) [] (knT t):=by
  have hk:∀y v,knT t y=some v→v.1=4∨(y∈nmA t.arrays∧v.1=2)∨(y∈nmV t.vars∧v.1=1):=fun y v hv=>by
   unfold knT putL at hv
   split at hv
   ·left;rw[←Option.some.inj hv]
   ·split at hv
    ·rename_i hm
     exact .inr (.inl ⟨hm,by rw[←Option.some.inj hv]⟩)
    ·split at hv
     ·rename_i hm
      exact .inr (.inr ⟨hm,by rw[←Option.some.inj hv]⟩)
     ·cases hv
  refine⟨fun y hi=>?_,fun y hi=>?_,fun y na e=>?_,fun y hy=>?_⟩
  ·obtain⟨v,hv⟩:=hi
   rcases hk _ _ hv with e|⟨_,e⟩|⟨hm,_⟩
   ·simp at e
   ·simp at e
   ·exact .inr (posI_is hm)
  ·obtain⟨v,hv⟩:=hi
   rcases hk _ _ hv with e|⟨hm,_⟩|⟨_,e⟩
   ·simp at e
   ·exact posI_is hm
   ·simp at e
  ·rcases hk _ _ e with e|⟨_,e⟩|⟨_,e⟩<;>simp at e
  ·unfold knT putL
   have hm:y∈nmV t.vars:=hy
   split
   ·simp
   ·split
    ·simp
    ·first|simp|(rw[if_pos hm];simp)
 obtain⟨g1,g2⟩:=procs_wf t.procs [] (knT t) hk0 h.each fun x hx=>⟨okPs_body t4 hx,(hz.procs x hx).2.2,procsOf_mem hp.2 hx⟩
 exact⟨fun i x hi=>by simpa using g1 i x hi,bgWfS_of (by simpa using g2) t.main t2 h.main hz.main⟩
end Go.Proofs.YtfomomaomggpbaaGreatDoor

namespace Go.Proofs.YtfomomaomggpbaaGreatDoor
open Go.RowKit Go.Shelf

def BgC.to (C:BgC) (T:Nat):BgC:={C with T:=T}
section
variable {C:BgC} {T T2:Nat}
theorem BgSt.to {oc:List Nat} {s:Bs} {w:World} (h:BgSt (C.to T) oc s w) (hT:∀b∈oc,T2≤b):BgSt (C.to T2) oc s w:=
 ⟨h.run,h.sto,h.len,h.own,h.nd,hT,h.oi,h.lf,h.nv,h.na,h.az⟩
theorem PgAt.to {w:World} (h:PgAt (C.to T) w) (hT:T≤T2):PgAt (C.to T2) w:=by
 obtain⟨N,f,h1,h2⟩:=h.ma
 exact⟨h.p,N,f,h1,fun nm i hi=>by
  obtain⟨b,hb,h3⟩:=h2 nm i hi
  exact⟨b,hb,fun s oc W l hs hl=>h3 s oc W l (hs.to fun b hb'=>leq9 hT (hs.top b hb')) hl⟩⟩
theorem DoP.up {ps:List (List UInt8)} {val:Value} {D:DoR} {lo hi:Nat} {w w2:World} (h:DoP (C.to T) ps val D lo hi w) (hT:T≤T2) (hh:hi≤T2) (hb:∀i,i < T2→¬C.Mut i→w2.heap[i]?=w.heap[i]?):DoP (C.to T2) ps val D 0 0 w2:=by
 obtain⟨g,caps,h1,h2,h3⟩:=h
 refine⟨g,caps,h1,h2,fun W oc nb s hh' t hr hd=>?_⟩
 have hr':RunAt (C.to T) lo hi w W ps oc nb s:=
  ⟨⟨⟨leq9 hh hr.lat.size.2,leq9 hT hr.lat.size.2⟩,fun i hi hn=>by
   have hi2:i < T2:=by
    rcases hi with e|e
    ·exact ltq (show i < T from e) hT
    ·omega
   exact(hr.lat.block i (.inl hi2) hn).trans (hb i hi2 hn)⟩,fun b hb'=>leq9 hh (hr.st.top b hb'),hr.st.to fun b hb'=>leq9 hT (hr.st.top b hb'),hr.sc.map,hr.sc.ap,hr.sc.out⟩
 refine(h3 W oc nb s hh' t hr' hd).mono fun e w' hq=>?_
 obtain⟨q1,q2,q3⟩:=hq
 exact⟨q1,q2.to fun b hb'=>hr.st.top b hb',q3⟩
def EntP (C:BgC) (T:Nat) (v:Option Value) (p:Prc) (w:World):Prop:=
 ∃Ap cp vb S Z,v=some (.agg #[.slice Ap p.params.length cp,vb])∧DoP (C.to T) (p.params.map (·.nm.data.toList)) vb (RunT C.n (.all (p.params.map (·.nm.data.toList)) p.body)) 0 0 w∧SlR (VaR w S Z p.params) p.params.length 24 Ap cp∧(∀b,S b→b < C.B)∧(∀x∈p.params,x.nm.size≤9223372036854775807)∧(p.params.map (·.nm.data.toList)).Nodup ∧∀nm∈p.params.map (·.nm.data.toList),posI C.n.vars nm=none
def PrF (C:BgC) (T:Nat) (kn:List UInt8→Prop) (f:List UInt8→Option Value) (N:Nat) (w:World):Prop:=MpV w C.MP N f∧∀nm p,kn nm→C.n.procs nm=some p→EntP C T (f nm) p w
theorem PrF.at_ {kn:List UInt8→Prop} {f:List UInt8→Option Value} {N:Nat} {w:World} (h:PrF C T kn f N w):PrAt (C.to T) kn w:=⟨N,f,h.1,h.2⟩
theorem EntP.up {v:Option Value} {p:Prc} {w w2:World} (h:EntP C T v p w) (hT:T≤T2) (hB:C.B≤w.heap.size) (hBM:C.B≤C.MP) (hf:Fr (fun b=>b=C.MP) w w2) (hTw:T2≤w.heap.size):EntP C T2 v p w2:=by
 obtain⟨Ap,cp,vb,S,Z,g1,g2,g3,g4,g5⟩:=h
 refine⟨Ap,cp,vb,S,Z,g1,g2.up hT (Nat.zero_le _) fun i hi hn=>hf.block i (ltq hi hTw) fun e=>hn (.inr (.inr (.inr e))),g3.imp fun _ _ hx=>VaR.keep (hf.same fun b hb=>⟨ltq (g4 b hb) hB,fun e=>?_⟩) hx,g4,g5⟩
 have e:b=C.MP:=e
 have:=g4 b hb
 omega
theorem EntP.later {v:Option Value} {p:Prc} {w w2:World} (h:EntP C T v p w) (hT:T≤w.heap.size) (hB:C.B≤w.heap.size) (hf:Fr NoT w w2):EntP C T v p w2:=by
 obtain⟨Ap,cp,vb,S,Z,g1,g2,g3,g4,g5⟩:=h
 exact⟨Ap,cp,vb,S,Z,g1,g2.later (Later.of0 hf (Nat.zero_le _) hT),g3.imp fun _ _ hx=>VaR.keep (hf.same fun b hb=>⟨ltq (g4 b hb) hB,id⟩) hx,g4,g5⟩
theorem PrF.up {kn:List UInt8→Prop} {f:List UInt8→Option Value} {N:Nat} {w w2:World} (h:PrF C T kn f N w) (hT:T≤w.heap.size) (hB:C.B≤w.heap.size) (hBM:C.B≤C.MP) (hf:Fr NoT w w2) (h2:T≤T2) (hT2:T2≤w2.heap.size):PrF C T2 kn f N w2:=
 ⟨h.1.fr hf id,fun nm p hk hp=>((h.2 nm p hk hp).later hT hB hf).up h2 (leq9 hB hf.size) hBM (Fr.refl _ _) hT2⟩
theorem PrF.step {kn:List UInt8→Prop} {f:List UInt8→Option Value} {N:Nat} {w w5 w6:World} (h:PrF C T kn f N w) (hT:T≤w.heap.size) (hB:C.B≤w.heap.size) (hBM:C.B≤C.MP) (hf:Fr NoT w w5) {x:Prc} (hx:∀p,C.n.procs x.nm.data.toList=some p→p=x) {vb:Value} {lo:Nat} (hd:DoP (C.to T) (x.params.map (·.nm.data.toList)) vb (RunT C.n (.all (x.params.map (·.nm.data.toList)) x.body)) lo w5.heap.size w5) {Ap:Option Addr} {cp:Nat} {S:Nat→Prop} {Z:Prop} (hv:SlR (VaR w5 S Z x.params) x.params.length 24 Ap cp) (hS:∀b,S b→b < C.B) (hsz:∀y∈x.params,y.nm.size≤9223372036854775807) (hnd:(x.params.map (·.nm.data.toList)).Nodup) (hno:∀nm∈x.params.map (·.nm.data.toList),posI C.n.vars nm=none)
  (hg:w5.grownBy w6 (some C.MP)) (hm:MpV w6 C.MP (N+1) (fun y=>if y=x.nm.data.toList then some (.agg #[.slice Ap x.params.length cp,vb])else f y)) (hfresh:¬kn x.nm.data.toList):
  PrF C w5.heap.size (fun y=>kn y∨y=x.nm.data.toList) (fun y=>if y=x.nm.data.toList then some (.agg #[.slice Ap x.params.length cp,vb])else f y) (N+1) w6:=by
 have hf6:Fr (fun b=>b=C.MP) w5 w6:=Fr.grown hg fun g e _=>(Option.some.inj e).symm
 have hT5:T≤w5.heap.size:=leq9 hT hf.size
 have hB5:C.B≤w5.heap.size:=leq9 hB hf.size
 refine⟨hm,fun nm p hk hp=>?_⟩
 by_cases e:nm=x.nm.data.toList
 ·subst e
  obtain rfl:=hx p hp
  simp only[if_true]
  refine⟨Ap,cp,vb,S,Z,rfl,hd.up hT5 (lrq _) fun i hi hn=>hf6.block i hi fun e=>hn (.inr (.inr (.inr e))),hv.imp fun _ _ h=>VaR.keep (hf6.same fun b hb=>⟨ltq (hS b hb) hB5,fun e=>?_⟩) h,hS,hsz,hnd,hno⟩
  have e:b=C.MP:=e
  have:=hS b hb
  omega
 ·simp only[if_neg e]
  have hk:kn nm:=hk.resolve_right e
  exact((h.2 nm p hk hp).later hT hB hf).up hT5 hB5 hBM hf6 (lrq _)
end
def bgC (t:Tre) (B T R V P MA MP:Nat) (A:Option Addr) (c:Nat) (bs:List Nat):BgC:=⟨bnOf t,B,B,T,R,V,P,MA,MP,A,c,bs,t.arrays.map fun a=>a.size.toNat⟩
theorem begB_at {t:Tre} {i:Nat} {a:Arr} (h:t.arrays[i]?=some a):(begB (t.arrays.map (·.size)))[i]?=some (zers a.size.toNat):=by simp[begB,h]
theorem is64_zers {n:Nat}:∀x∈zers n,is64 x:=fun x hx=>by
 unfold zers at hx
 have:=List.eq_of_mem_replicate hx
 subst this
 unfold is64
 decide
theorem BgA.bk_V {w1 wr:World} {R MA:Nat} {sc lf vs:Value} {names:List (List UInt8)} {zs:List Int} {v:Value} {bs:List Nat} {k:Nat} (h:BgA w1 R MA sc lf vs names zs v wr bs k) {V:Nat} {ty:TypeId} {cs:Array Value} (hV:Bk w1 V ty cs) (hn:V≠R∧V≠MA):Bk wr V ty cs:=
 hV.fr h.fr fun e=>e.elim hn.1 hn.2
theorem BgA.sets {t:Tre} {w1 wr:World} {R V P MA MP:Nat} {v:Value} {bs:List Nat} {B st:Nat} {As:Option Addr} {cs:Nat} {script:List Int} (hok:OkT t)
  (h:BgA w1 R MA (.slice As script.length cs) (.int .i64 st) (.slice (some ⟨V,0,none⟩) t.vars.length t.vars.length) (nmA t.arrays) (t.arrays.map (·.size)) v wr bs t.arrays.length)
  (hB:B≤V) (hV:V < w1.heap.size) (hR:R < w1.heap.size) (hM:MP < w1.heap.size) (hP:P < w1.heap.size) (hA:MA < w1.heap.size) (hBR:B≤R) (hBM:B≤MP) (hne:R≠V∧P≠R∧P≠V∧P≠MP∧P≠MA∧MA≠R∧MA≠V∧MA≠MP) (hst:st≤65536) (hsc:IsSl wr B script As cs)
  (hVb:Bk w1 V 3 (intL (zers t.vars.length)).toArray) (hPb:Bk w1 P 73 #[.pointer (some ⟨R,0,none⟩),.map (some MA),.map (some MP)]):
  ∃A c,v= .slice A t.arrays.length c∧∀T,wr.heap.size≤T→(bgC t B T R V P MA MP A c bs).Ok ∧PgAt (bgC t B T R V P MA MP A c bs) wr∧BgSt (bgC t B T R V P MA MP A c bs) [] ⟨zers t.vars.length,begB (t.arrays.map (·.size)),script,st, []⟩ wr:=by
 obtain⟨A,c,rfl⟩:∃A c,v= .slice A t.arrays.length c:=by
  rcases h.row.2 with⟨e,e0⟩|⟨g,cap,cur,e,_⟩
  ·exact⟨none,0,by rw[e,e0]⟩
  ·exact⟨_,_,e⟩
 refine⟨A,c,rfl,fun T hT=>?_⟩
 have hw:=h.fr.size
 have hfew:=fewT_iff.1 hok.few
 have hown:∀n b,(Value.slice A n c).ownBlock =some b→w1.heap.size≤b∧b < wr.heap.size:=fun n b hb=>h.row.lt b (by cases A<;>exact hb)
 have hbs:∀b∈bs,w1.heap.size≤b:=fun b hb=>by
  obtain⟨i,hi⟩:=List.mem_iff_getElem?.1 hb
  have hl:i < t.arrays.length:=by rw[←h.len];exact(List.getElem?_eq_some_iff.1 hi).1
  exact(h.each i b _ hi (begB_at (List.getElem?_eq_getElem hl))).1
 have hnb:∀b,b < w1.heap.size→b∉bs:=fun b hb hm=>by have:=hbs b hm;omega
 have htk:(t.arrays.map (·.size)).take t.arrays.length=t.arrays.map (·.size):=List.take_of_length_le (by simp)
 have htn:(nmA t.arrays).take t.arrays.length=nmA t.arrays:=List.take_of_length_le (by simp[nmA])
 have hll:(begB (t.arrays.map (·.size))).length =t.arrays.length:=by simp[begB]
 have hok':(bgC t B T R V P MA MP A c bs).Ok :=
  ⟨lrq _,hBR,hBM,by show R < T;omega,by show V < T;omega,fun b hb=>by have:=h.lt b hb;show T > b;omega,by show MP < T;omega,by show P < T;omega,by show MA < T;omega,hne.1,hnb R hR,fun n b hb=>by
   have:=hown n b hb
   refine⟨by show b < T;omega,fun e=>?_⟩
   have e:b=R:=e
   omega,
   fun e=>by
    rcases e with e|e|e|e
    ·exact hne.2.1 e
    ·exact hne.2.2.1 e
    ·exact hnb P hP e
    ·exact hne.2.2.2.1 e,
   fun e=>by
    rcases e with e|e|e|e
    ·exact hne.2.2.2.2.2.1 e
    ·exact hne.2.2.2.2.2.2.1 e
    ·exact hnb MA hA e
    ·exact hne.2.2.2.2.2.2.2 e⟩
 have hz:∀l∈begB (t.arrays.map (·.size)),l.length≤16∧∀x∈l,is64 x:=fun l hl=>by
  simp only[begB,List.mem_map]at hl
  obtain⟨n,⟨a,ha,rfl⟩,rfl⟩:=hl
  have:=hok.sizes a ha
  exact⟨by rw[zers_len];omega,is64_zers⟩
 refine⟨hok',⟨hPb.fr h.fr fun e=>by omega,_,_,h.map,fun nm i hi=>?_⟩,⟨⟨As,cs,hsc,by simpa[runV,run0V,bgC,zers_len,hll]using h.bk⟩,⟨h.bk_V hVb ⟨Ne.symm hne.1,Ne.symm hne.2.2.2.2.2.2.1⟩,hB,?_,?_,fun i b l hi hl=>?_,h.nd,hnb V hV,fun e=>?_,fun b hb e=>?_,⟨is64_zers,fun l hl=>(hz l hl).2⟩,?_⟩,rfl,fun i b x hb=>by simp at hb,List.nodup_nil,fun b hb=>by simp at hb,fun x hx=>by simp at hx,hst,by simp[zers_len,bgC,bnOf,nmV],by simp[hll,bgC,bnOf,nmA],?_⟩⟩
 ·obtain⟨b,hb⟩:∃b,bs[i]?=some b:=⟨_,List.getElem?_eq_getElem (by rw[h.len];have:=posI_lt hi;simpa[bgC,bnOf]using this)⟩
  refine⟨b,hb,fun s oc W l hs hl=>?_⟩
  have hz2:((s.ls.map List.length)[i]?)=some l.length:=by rw[List.getElem?_map,hl];rfl
  rw[hs.az]at hz2
  have hia:i < t.arrays.length:=by rw[←h.len];exact(List.getElem?_eq_some_iff.1 hb).1
  have hz3:t.arrays[i].size.toNat =l.length:=by
   have h9:(t.arrays.map fun a=>a.size.toNat)[i]?=some l.length:=hz2
   rw[List.getElem?_map,List.getElem?_eq_getElem hia]at h9
   simpa using h9
  have h8:=rowL_at hb (begB_at (List.getElem?_eq_getElem hia))
  rw[zers_len,hz3]at h8
  rw[htk,htn]
  unfold fA
  rw[show posI (nmA t.arrays) nm=some i from hi]
  exact h8
 ·show wr.ownsRow B 28 1 (.slice A (begB (t.arrays.map (·.size))).length c) (begB (t.arrays.map (·.size))).length (rowL bs (begB (t.arrays.map (·.size))))
  rw[hll]
  have h9:=h.row
  rw[htk]at h9
  refine⟨h9.1,h9.2.imp id ?_⟩
  rintro⟨g,cap,cur,e1,e2,e3⟩
  exact⟨g,cap,cur,e1,by omega,e3⟩
 ·show bs.length=(begB (t.arrays.map (·.size))).length
  rw[hll,h.len]
 ·have:=h.each i b l hi hl
  refine⟨?_,this.2⟩
  show B≤b
  omega
 ·have e:(Value.slice A (begB (t.arrays.map (·.size))).length c).ownBlock =some V:=e
  have:=hown _ _ e
  omega
 ·have e:(Value.slice A (begB (t.arrays.map (·.size))).length c).ownBlock =some b:=e
  rw[hll]at e
  exact h.rb b hb e
 ·show(zers t.vars.length).length ≤1000∧(begB (t.arrays.map (·.size))).length ≤1000∧∀l∈begB (t.arrays.map (·.size)),l.length≤1000
  rw[zers_len,hll]
  exact⟨by omega,by omega,fun l hl=>by have:=(hz l hl).1;omega⟩
 ·simp[bgC,begB,zers_len]
end Go.Proofs.YtfomomaomggpbaaGreatDoor
