/- big: what check.Tree has shown is what may be made, and run. -/
import Derived.Test.YtfomomaomggpbaaGreatDoorBgNms
set_option linter.all false
namespace Go.Proofs.YtfomomaomggpbaaGreatDoor
open Go.RowKit Go.Shelf
structure KnB9 (n:Bn)(kd:List UInt8->Prop)(ps:List (List UInt8))(kn:Kn):Prop where
 sc:∀t,isK kn t 1->(∃k,posI ps t=some k)\/∃i,posI n.vars t=some i
 ar:∀t,isK kn t 2->∃i,posI n.arrs t=some i
 pr:∀t na,kn t=some (3,na)->kd t/\∃p,n.procs t=some p/\(p.params.length:Int)=na
 gl:∀t∈n.vars,kn t≠none
section
variable {n:Bn} {kd:List UInt8->Prop} {ps:List (List UInt8)} {kn:Kn}
theorem KnB9.put (h:KnB9 n kd [] kn){x:Prc}(hx:n.procs x.nm.data.toList=some x):KnB9 n (λy=>kd y\/y=x.nm.data.toList) [] (kn.put x.nm.data.toList (3,x.params.length)):=by
 have hk:∀t (k:Int),k≠3->isK (kn.put x.nm.data.toList (3,x.params.length)) t k->isK kn t k:=λt k hk hi=>by
  obtain⟨v,hv⟩:=hi;unfold Kn.put at hv;by_cases e:t=x.nm.data.toList
  ·rw[if_pos e]at hv;simp only[Option.some.injEq,Prod.mk.injEq]at hv;exact absurd hv.1.symm hk
  ·rw[if_neg e]at hv;exact⟨v,hv⟩
 refine⟨λt hi=>h.sc t (hk t 1 (by decide) hi),λt hi=>h.ar t (hk t 2 (by decide) hi),λt na e=>?_,λt ht=>?_⟩
 ·unfold Kn.put at e;by_cases e2:t=x.nm.data.toList
  ·rw[if_pos e2]at e;simp only[Option.some.injEq,Prod.mk.injEq]at e;exact⟨.inr e2,x,by rw[e2];exact hx,e.2⟩
  ·rw[if_neg e2]at e;obtain⟨h1,h2⟩:=h.pr t na e;exact⟨.inl h1,h2⟩
 ·unfold Kn.put;split
  ·simp
  ·exact h.gl t ht
theorem KnB9.own (h:KnB9 n kd [] kn)(ps:List (List UInt8)):KnB9 n kd ps (putL (1,0) ps kn):=by
 have hk:∀t v,(putL (1,0) ps kn) t=some v->(t∈ps/\v=(1,0))\/kn t=some v:=λt v hv=>by
  unfold putL at hv;by_cases e:t∈ps
  ·rw[if_pos e]at hv;exact .inl ⟨e,(Option.some.inj hv).symm⟩
  ·rw[if_neg e]at hv;exact .inr hv
 refine⟨λt hi=>?_,λt hi=>?_,λt na e=>?_,λt ht=>?_⟩
 ·obtain⟨v,hv⟩:=hi;rcases hk _ _ hv with⟨hm,_⟩|hv
  ·exact .inl (zfI hm)
  ·rcases h.sc t ⟨v,hv⟩with⟨k,hk⟩|hi
   ·simp[posI]at hk
   ·exact .inr hi
 ·obtain⟨v,hv⟩:=hi;rcases hk _ _ hv with⟨_,e⟩|hv
  ·simp at e
  ·exact h.ar t ⟨v,hv⟩
 ·rcases hk _ _ e with⟨_,e⟩|hv
  ·simp at e
  ·exact h.pr t na hv
 ·unfold putL;split
  ·simp
  ·exact h.gl t ht
theorem zhT (hk:KnB9 n kd ps kn):∀xs,okX xs=true->okUX kn xs->szX xs->wfX n ps xs
 | .nil,_,_,_=>trivial
 | .cons k nm m args at_ r,h,⟨u1,u2,u3,u4⟩,⟨z1,z2,z3⟩=>by
  unfold okX at h;simp only[Bool.and_eq_true,decide_eq_true_eq,beq_iff_eq]at h;obtain⟨⟨⟨⟨⟨⟨⟨h1,h2⟩,h3⟩,h4⟩,h5⟩,h6⟩,h7⟩,h8⟩:=h;refine⟨⟨⟨h1,h2⟩,z1,λe=>hk.sc _ (u1 e),λe=>hk.ar _ (u2 e),λe=>?_,λe=>?_,λe=>?_⟩,zhT hk args h7 u3 z2,zhT hk r h8 u4 z3⟩
  ·rcases(show k=1\/k=2 by omega)with rfl|rfl<;>simpa[tabA,zcs]using h6
  ·rcases e with rfl|rfl<;>(simp[tabA,zcs]at h6;omega)
  ·rcases(show k=5\/k=6\/k=7\/k=8\/k=9\/k=10\/k=11 by omega)with rfl|rfl|rfl|rfl|rfl|rfl|rfl<;>(simp[tabA,zcs]at h6;omega)
theorem zfJ (hk:KnB9 n kd ps kn):∀xs,okC xs=true->okUC kn xs->szC xs->wfCb n ps xs
 | .nil,_,_,_=>trivial
 | .cons k args of_ at_ r,h,⟨u1,u2,u3⟩,⟨z1,z2,z3⟩=>by
  unfold okC at h;simp only[Bool.and_eq_true,decide_eq_true_eq,beq_iff_eq]at h;obtain⟨⟨⟨⟨⟨⟨h1,h2⟩,h3⟩,h4⟩,h5⟩,h6⟩,h7⟩:=h;refine⟨⟨⟨h1,h2⟩,λe=>?_,λe=>?_,λe1 e2=>?_⟩,zhT hk args h5 u1 z1,zfJ hk of_ h6 u2 z2,zfJ hk r h7 u3 z3⟩
  ·subst e;simp[tabA,zct]at h4;omega
  ·rcases e with rfl|rfl<;>(simp[tabA,zct]at h4;omega)
  ·rcases(show k=3\/k=4\/k=5\/k=6\/k=7\/k=8 by omega)with rfl|rfl|rfl|rfl|rfl|rfl<;>(simp[tabA,zct]at h3;omega)
theorem zcY (hk:KnB9 n kd ps kn):∀xs,okS xs=true->okUS kn xs->szS xs->wfSb n kd ps xs
 | .nil,_,_,_=>trivial
 | .cons k nm args cond body els at_ r,h,⟨⟨u1,u2,u3⟩,v1,v2,v3,v4,v5⟩,⟨z0,z1,z2,z3,z4,z5⟩=>by
  unfold okS at h;simp only[Bool.and_eq_true,decide_eq_true_eq,beq_iff_eq,Bool.or_eq_true]at h;obtain⟨⟨⟨⟨⟨⟨⟨⟨⟨⟨⟨h1,h2⟩,h3⟩,h4⟩,h5⟩,h6⟩,h7⟩,h8⟩,h9⟩,Jn⟩,Q5⟩,Ur⟩:=h;refine⟨⟨⟨h1,h2⟩,z0,λe=>hk.sc _ (u1 e),λe=>hk.ar _ (u2 e),λe=>?_,λe=>?_,λe1 e2=>?_,λe=>?_⟩,zhT hk args h8 v1 z1,zfJ hk cond h9 v2 z2,zcY hk body Jn v3 z3,zcY hk els Q5 v4 z4,zcY hk r Ur v5 z5⟩
  ·subst e;simp[tabA,zaQ]at h4;omega
  ·subst e;simp[tabA,zaQ]at h4;omega
  ·rcases(show k=5\/k=6\/k=7\/k=8 by omega)with rfl|rfl|rfl|rfl<;>(simp[tabA,zaQ]at h5;omega)
  ·obtain⟨p1,p,p2,p3⟩:=hk.pr _ _ (u3 e);exact⟨p1,p,p2,by omega⟩
end
theorem zeq {n:Bn}{kd:List UInt8->Prop}{ps:List (List UInt8)}:∀xs,wfSb n kd ps xs->zda n xs
 | .nil,_=>trivial
 | .cons k nm args cond body els at_ r,⟨h,_,_,h3,h4,h5⟩=>⟨h.1,λe=>by obtain⟨_,p,hp,_⟩:=h.2.2.2.2.2.2.2 e;exact⟨p,hp⟩,zeq body h3,zeq els h4,zeq r h5⟩
def kdL (l:List Prc):List UInt8->Prop:=λy=>∃x∈l,y=x.nm.data.toList
def wfPb (n:Bn)(kd:List UInt8->Prop)(x:Prc):Prop:=wfSb n kd (x.params.map (·.nm.data.toList)) x.body/\(x.params.map (·.nm.data.toList)).Nodup /\∀nm∈x.params.map (·.nm.data.toList),posI n.vars nm=none
theorem KnB9.as {n:Bn}{kd zN:List UInt8->Prop}{ps:List (List UInt8)}{kn:Kn}(h:KnB9 n kd ps kn)(e:∀y,kd y->zN y):KnB9 n zN ps kn:=⟨h.sc,h.ar,λt na ht=>⟨e _ (h.pr t na ht).1,(h.pr t na ht).2⟩,h.gl⟩
theorem zhU {n:Bn}:∀(zs ys:List Prc)(kn:Kn),KnB9 n (kdL ys) [] kn->zkc zs kn->(∀x∈zs,okS x.body=true/\szS x.body/\n.procs x.nm.data.toList=some x)->
  (∀(i:Nat) x,zs[i]?=some x->wfPb n (kdL (ys++zs.take i)) x)/\KnB9 n (kdL (ys++zs)) [] (ziC zs kn)
 | [],ys,kn,hk,_,_=>⟨λi x h=>by simp at h,by simpa[ziC]using hk⟩
 |x::r,ys,kn,hk,⟨⟨h1,h2,h3⟩,h4⟩,hx=>by
  obtain⟨o1,o2,o3⟩:=hx x (by simp);have hf:=freshL_iff.1 h2;have hw:wfPb n (kdL ys) x:=by
   refine⟨zcY (hk.own _) x.body o1 h3 o2,hf.2,λnm hm=>?_⟩;cases e:posI n.vars nm with
   |none=>rfl
   |some i=>exact absurd (hf.1 nm hm) (hk.gl nm (List.mem_of_getElem? (zfE e)))
  have FK:KnB9 n (kdL (ys++ [x])) [] (kn.put x.nm.data.toList (3,x.params.length)):=(hk.put o3).as λy hy=>by
   rcases hy with⟨z,hz,e⟩|e
   ·exact⟨z,by simp[hz],e⟩
   ·exact⟨x,by simp,e⟩
  obtain⟨g1,g2⟩:=zhU r (ys++ [x]) _ FK h4 λz hz=>hx z (by simp[hz]);refine⟨λi z hi=>?_,by simpa[ziC]using g2⟩;cases i with
  |zero=>
   simp only[List.getElem?_cons_zero,Option.some.injEq]at hi;subst hi;simpa using hw
  |succ i=>
   have:=g1 i z (by simpa using hi);simpa using this
theorem zkP {ps:List Prc}(h:okPs ps=true){x:Prc}(hx:x∈ps):okS x.body=true:=by
 unfold okPs zc5 at h;have:=List.all_eq_true.1 h x hx;simp only[Bool.and_eq_true]at this;exact this.2
theorem zkQ {t:Tre}(h:OkT t)(hz:SzT t):(∀(i:Nat) x,t.procs[i]?=some x->wfPb (bnOf t) (kdL (t.procs.take i)) x)/\wfSb (bnOf t) (kdL t.procs) [] t.main:=by
 have ht:=h.tree;unfold okTr at ht;simp only[Bool.and_eq_true]at ht;obtain⟨⟨⟨t1,t2⟩,t3⟩,t4⟩:=ht;have hp:=freshL_iff.1 h.procs;have Gz:KnB9 (bnOf t) (kdL []) [] (knT t):=by
  have hk:∀y v,knT t y=some v->v.1=4\/(y∈nmA t.arrays/\v.1=2)\/(y∈nmV t.vars/\v.1=1):=λy v hv=>by
   unfold knT putL at hv;split at hv
   ·left;rw[<-Option.some.inj hv]
   ·split at hv
    ·rename_i hm;exact .inr (.inl ⟨hm,by rw[<-Option.some.inj hv]⟩)
    ·split at hv
     ·rename_i hm;exact .inr (.inr ⟨hm,by rw[<-Option.some.inj hv]⟩)
     ·cases hv
  refine⟨λy hi=>?_,λy hi=>?_,λy na e=>?_,λy hy=>?_⟩
  ·obtain⟨v,hv⟩:=hi;rcases hk _ _ hv with e|⟨_,e⟩|⟨hm,_⟩
   ·simp at e
   ·simp at e
   ·exact .inr (zfI hm)
  ·obtain⟨v,hv⟩:=hi;rcases hk _ _ hv with e|⟨hm,_⟩|⟨_,e⟩
   ·simp at e
   ·exact zfI hm
   ·simp at e
  ·rcases hk _ _ e with e|⟨_,e⟩|⟨_,e⟩<;>simp at e
  ·unfold knT putL;have hm:y∈nmV t.vars:=hy;split
   ·simp
   ·split
    ·simp
    ·first|simp|(rw[if_pos hm];simp)
 obtain⟨g1,g2⟩:=zhU t.procs [] (knT t) Gz h.each λx hx=>⟨zkP t4 hx,(hz.procs x hx).2.2,zcw hp.2 hx⟩;exact⟨λi x hi=>by simpa using g1 i x hi,zcY (by simpa using g2) t.main t2 h.main hz.main⟩
theorem zkR {t:Tre}(h:OkT t)(hz:SzT t):(∀y p,(bnOf t).procs y=some p->zda (bnOf t) p.body)/\zda (bnOf t) t.main:=by
 obtain⟨h1,h2⟩:=zkQ h hz;refine⟨λy p hp=>?_,zeq _ h2⟩;obtain⟨hm,_⟩:=zeR hp;obtain⟨i,hi⟩:=List.mem_iff_getElem?.1 hm;exact zeq _ (h1 i p hi).1
def BgC.to (C:BgC)(T:Nat):BgC:={C with T:=T}
section
variable {C:BgC} {T T2:Nat}
theorem BgSt.to {oc:List Nat}{s:Bs}{w:World}(h:BgSt (C.to T) oc s w)(hT:∀b∈oc,T2<=b):BgSt (C.to T2) oc s w:=
 ⟨h.run,h.sto,h.len,h.own,h.nd,hT,h.oi,h.lf,h.nv,h.na,h.az⟩
theorem PgAt.to {w:World}(h:PgAt (C.to T) w)(hT:T<=T2):PgAt (C.to T2) w:=by
 obtain⟨N,f,h1,h2⟩:=h.ma;exact⟨h.p,N,f,h1,λnm i hi=>by
  obtain⟨b,hb,h3⟩:=h2 nm i hi;exact⟨b,hb,λs oc W l hs hl=>h3 s oc W l (hs.to λb FJ=>leq9 hT (hs.top b FJ)) hl⟩⟩
theorem DoP.up {ps:List (List UInt8)}{val:Value}{D:DoR}{lo hi:Nat}{w w2:World}(h:DoP (C.to T) ps val D lo hi w)(hT:T<=T2)(hh:hi<=T2)(hb:∀i,i < T2->¬C.Mut i->w2.heap[i]?=w.heap[i]?):DoP (C.to T2) ps val D 0 0 w2:=by
 obtain⟨g,caps,h1,h2,h3⟩:=h;refine⟨g,caps,h1,h2,λW oc nb s qY t hr hd=>?_⟩;have qZ:RunAt (C.to T) lo hi w W ps oc nb s:=
  ⟨⟨⟨leq9 hh hr.lat.size.2,leq9 hT hr.lat.size.2⟩,λi hi hn=>by
   have Je:i < T2:=by
    rcases hi with e|e
    ·exact ltq (show i < T from e) hT
    ·omega
   exact(hr.lat.block i (.inl Je) hn).trans (hb i Je hn)⟩,λb FJ=>leq9 hh (hr.st.top b FJ),hr.st.to λb FJ=>leq9 hT (hr.st.top b FJ),hr.sc.map,hr.sc.ap,hr.sc.out⟩
 refine(h3 W oc nb s qY t qZ hd).mono λe w' hq=>?_;obtain⟨q1,q2,q3⟩:=hq;exact⟨q1,q2.to λb FJ=>hr.st.top b FJ,q3⟩
def EntP (C:BgC)(T:Nat)(v:Option Value)(p:Prc)(w:World):Prop:=
 ∃Ap cp vb S Z,v=some (.agg #[.slice Ap p.params.length cp,vb])/\DoP (C.to T) (p.params.map (·.nm.data.toList)) vb (RunT C.n (.all (p.params.map (·.nm.data.toList)) p.body)) 0 0 w/\SlR (VaR w S Z p.params) p.params.length 24 Ap cp/\(∀b,S b->b < C.B)/\(∀x∈p.params,x.nm.size<=9223372036854775807)/\(p.params.map (·.nm.data.toList)).Nodup /\∀nm∈p.params.map (·.nm.data.toList),posI C.n.vars nm=none
def PrF (C:BgC)(T:Nat)(kn:List UInt8->Prop)(f:List UInt8->Option Value)(N:Nat)(w:World):Prop:=MpV w C.MP N f/\∀nm p,kn nm->C.n.procs nm=some p->EntP C T (f nm) p w
theorem PrF.at_ {kn:List UInt8->Prop}{f:List UInt8->Option Value}{N:Nat}{w:World}(h:PrF C T kn f N w):PrAt (C.to T) kn w:=⟨N,f,h.1,h.2⟩
theorem EntP.up {v:Option Value}{p:Prc}{w w2:World}(h:EntP C T v p w)(hT:T<=T2)(hB:C.B<=w.heap.size)(UT:C.B<=C.MP)(hf:Fr (λb=>b=C.MP) w w2)(Xm:T2<=w.heap.size):EntP C T2 v p w2:=by
 obtain⟨Ap,cp,vb,S,Z,g1,g2,g3,g4,g5⟩:=h;refine⟨Ap,cp,vb,S,Z,g1,g2.up hT (Nat.zero_le _) λi hi hn=>hf.block i (ltq hi Xm) λe=>hn (.inr (.inr (.inr e))),g3.imp λ_ _ hx=>VaR.keep (hf.same λb hb=>⟨ltq (g4 b hb) hB,λe=>?_⟩) hx,g4,g5⟩;have e:b=C.MP:=e;have:=g4 b hb;omega
theorem EntP.later {v:Option Value}{p:Prc}{w w2:World}(h:EntP C T v p w)(hT:T<=w.heap.size)(hB:C.B<=w.heap.size)(hf:Fr NoT w w2):EntP C T v p w2:=by
 obtain⟨Ap,cp,vb,S,Z,g1,g2,g3,g4,g5⟩:=h;exact⟨Ap,cp,vb,S,Z,g1,g2.later (Later.of0 hf (Nat.zero_le _) hT),g3.imp λ_ _ hx=>VaR.keep (hf.same λb hb=>⟨ltq (g4 b hb) hB,id⟩) hx,g4,g5⟩
theorem PrF.up {kn:List UInt8->Prop}{f:List UInt8->Option Value}{N:Nat}{w w2:World}(h:PrF C T kn f N w)(hT:T<=w.heap.size)(hB:C.B<=w.heap.size)(UT:C.B<=C.MP)(hf:Fr NoT w w2)(h2:T<=T2)(F9:T2<=w2.heap.size):PrF C T2 kn f N w2:=
 ⟨h.1.fr hf id,λnm p hk hp=>((h.2 nm p hk hp).later hT hB hf).up h2 (leq9 hB hf.size) UT (Fr.refl _ _) F9⟩
theorem PrF.step {kn:List UInt8->Prop}{f:List UInt8->Option Value}{N:Nat}{w w5 w6:World}(h:PrF C T kn f N w)(hT:T<=w.heap.size)(hB:C.B<=w.heap.size)(UT:C.B<=C.MP)(hf:Fr NoT w w5){x:Prc}(hx:∀p,C.n.procs x.nm.data.toList=some p->p=x){vb:Value}{lo:Nat}(hd:DoP (C.to T) (x.params.map (·.nm.data.toList)) vb (RunT C.n (.all (x.params.map (·.nm.data.toList)) x.body)) lo w5.heap.size w5){Ap:Option Addr}{cp:Nat}{S:Nat->Prop}{Z:Prop}(hv:SlR (VaR w5 S Z x.params) x.params.length 24 Ap cp)(hS:∀b,S b->b < C.B)(Ht:∀y∈x.params,y.nm.size<=9223372036854775807)(KU:(x.params.map (·.nm.data.toList)).Nodup)(N7:∀nm∈x.params.map (·.nm.data.toList),posI C.n.vars nm=none)
  (hg:w5.grownBy w6 (some C.MP)) (hm:MpV w6 C.MP (N+1) (λy=>if y=x.nm.data.toList then some (.agg #[.slice Ap x.params.length cp,vb])else f y)) (NB:¬kn x.nm.data.toList):
  PrF C w5.heap.size (λy=>kn y\/y=x.nm.data.toList) (λy=>if y=x.nm.data.toList then some (.agg #[.slice Ap x.params.length cp,vb])else f y) (N+1) w6:=by
 have Gt:Fr (λb=>b=C.MP) w5 w6:=Fr.grown hg λg e _=>(Option.some.inj e).symm;have jj:T<=w5.heap.size:=leq9 hT hf.size;have jk:C.B<=w5.heap.size:=leq9 hB hf.size;refine⟨hm,λnm p hk hp=>?_⟩;by_cases e:nm=x.nm.data.toList
 ·subst e;obtain rfl:=hx p hp;simp only[if_true];refine⟨Ap,cp,vb,S,Z,rfl,hd.up jj (lrq _) λi hi hn=>Gt.block i hi λe=>hn (.inr (.inr (.inr e))),hv.imp λ_ _ h=>VaR.keep (Gt.same λb hb=>⟨ltq (hS b hb) jk,λe=>?_⟩) h,hS,Ht,KU,N7⟩;have e:b=C.MP:=e;have:=hS b hb;omega
 ·simp only[if_neg e];have hk:kn nm:=hk.resolve_right e;exact((h.2 nm p hk hp).later hT hB hf).up jj jk UT Gt (lrq _)
end
def bgC (t:Tre)(B T R V P MA MP:Nat)(A:Option Addr)(c:Nat)(bs:List Nat):BgC:=⟨bnOf t,B,B,T,R,V,P,MA,MP,A,c,bs,t.arrays.map λa=>a.size.toNat⟩
theorem zhd {t:Tre}{i:Nat}{a:Arr}(h:t.arrays[i]?=some a):(begB (t.arrays.map (·.size)))[i]?=some (zers a.size.toNat):=by simp[begB,h]
theorem zgE {n:Nat}:∀x∈zers n,is64 x:=λx hx=>by
 unfold zers at hx;have:=List.eq_of_mem_replicate hx;subst this;unfold is64
 decide
theorem BgA.bk_V {w1 wr:World}{R MA:Nat}{sc lf vs:Value}{names:List (List UInt8)}{zs:List Int}{v:Value}{bs:List Nat}{k:Nat}(h:BgA w1 R MA sc lf vs names zs v wr bs k){V:Nat}{ty:TypeId}{cs:Array Value}(hV:Bk w1 V ty cs)(hn:V≠R/\V≠MA):Bk wr V ty cs:=
 hV.fr h.fr λe=>e.elim hn.1 hn.2
theorem BgA.sets {t:Tre}{w1 wr:World}{R V P MA MP:Nat}{v:Value}{bs:List Nat}{B st:Nat}{As:Option Addr}{cs:Nat}{script:List Int}(Fh:OkT t)
  (h:BgA w1 R MA (.slice As script.length cs) (.int .i64 st) (.slice (some ⟨V,0,none⟩) t.vars.length t.vars.length) (nmA t.arrays) (t.arrays.map (·.size)) v wr bs t.arrays.length)
  (hB:B<=V) (hV:V < w1.heap.size) (hR:R < w1.heap.size) (hM:MP < w1.heap.size) (hP:P < w1.heap.size) (hA:MA < w1.heap.size) (vd:B<=R) (UT:B<=MP) (Gc:R≠V/\P≠R/\P≠V/\P≠MP/\P≠MA/\MA≠R/\MA≠V/\MA≠MP) (Gu:st<=65536) (Kx:IsSl wr B script As cs)
  (Wv:Bk w1 V 3 (intL (zers t.vars.length)).toArray) (ve:Bk w1 P 73 #[.pointer (some ⟨R,0,none⟩),.map (some MA),.map (some MP)]):
  ∃A c,v= .slice A t.arrays.length c/\∀T,wr.heap.size<=T->(bgC t B T R V P MA MP A c bs).Ok /\PgAt (bgC t B T R V P MA MP A c bs) wr/\BgSt (bgC t B T R V P MA MP A c bs) [] ⟨zers t.vars.length,begB (t.arrays.map (·.size)),script,st, []⟩ wr:=by
 obtain⟨A,c,rfl⟩:∃A c,v= .slice A t.arrays.length c:=by
  rcases h.row.2 with⟨e,e0⟩|⟨g,cap,cur,e,_⟩
  ·exact⟨none,0,by rw[e,e0]⟩
  ·exact⟨_,_,e⟩
 refine⟨A,c,rfl,λT hT=>?_⟩;have hw:=h.fr.size;have P5:=fewT_iff.1 Fh.few;have Hb:∀n b,(Value.slice A n c).ownBlock =some b->w1.heap.size<=b/\b < wr.heap.size:=λn b hb=>h.row.lt b (by cases A<;>exact hb);have UU:∀b∈bs,w1.heap.size<=b:=λb hb=>by
  obtain⟨i,hi⟩:=List.mem_iff_getElem?.1 hb;have hl:i < t.arrays.length:=by rw[<-h.len];exact(List.getElem?_eq_some_iff.1 hi).1
  exact(h.each i b _ hi (zhd (List.getElem?_eq_getElem hl))).1
 have Mf:∀b,b < w1.heap.size->b∉bs:=λb hb hm=>by have:=UU b hm;omega
 have Me:(t.arrays.map (·.size)).take t.arrays.length=t.arrays.map (·.size):=List.take_of_length_le (by simp);have Q9:(nmA t.arrays).take t.arrays.length=nmA t.arrays:=List.take_of_length_le (by simp[nmA]);have UV:(begB (t.arrays.map (·.size))).length =t.arrays.length:=by simp[begB]
 have ZE:(bgC t B T R V P MA MP A c bs).Ok :=
  ⟨lrq _,vd,UT,by show R < T;omega,by show V < T;omega,λb hb=>by have:=h.lt b hb;show T > b;omega,by show MP < T;omega,by show P < T;omega,by show MA < T;omega,Gc.1,Mf R hR,λn b hb=>by
   have:=Hb n b hb;refine⟨by show b < T;omega,λe=>?_⟩;have e:b=R:=e;omega,
   λe=>by
    rcases e with e|e|e|e
    ·exact Gc.2.1 e
    ·exact Gc.2.2.1 e
    ·exact Mf P hP e
    ·exact Gc.2.2.2.1 e,
   λe=>by
    rcases e with e|e|e|e
    ·exact Gc.2.2.2.2.2.1 e
    ·exact Gc.2.2.2.2.2.2.1 e
    ·exact Mf MA hA e
    ·exact Gc.2.2.2.2.2.2.2 e⟩
 have hz:∀l∈begB (t.arrays.map (·.size)),l.length<=16/\∀x∈l,is64 x:=λl hl=>by
  simp only[begB,List.mem_map]at hl;obtain⟨n,⟨a,ha,rfl⟩,rfl⟩:=hl;have:=Fh.sizes a ha;exact⟨by rw[zbQ];omega,zgE⟩
 refine⟨ZE,⟨ve.fr h.fr λe=>by omega,_,_,h.map,λnm i hi=>?_⟩,⟨⟨As,cs,Kx,by simpa[runV,ziP,bgC,zbQ,UV]using h.bk⟩,⟨h.bk_V Wv ⟨Ne.symm Gc.1,Ne.symm Gc.2.2.2.2.2.2.1⟩,hB,?_,?_,λi b l hi hl=>?_,h.nd,Mf V hV,λe=>?_,λb hb e=>?_,⟨zgE,λl hl=>(hz l hl).2⟩,?_⟩,rfl,λi b x hb=>by simp at hb,List.nodup_nil,λb hb=>by simp at hb,λx hx=>by simp at hx,Gu,by simp[zbQ,bgC,bnOf,nmV],by simp[UV,bgC,bnOf,nmA],?_⟩⟩
 ·obtain⟨b,hb⟩:∃b,bs[i]?=some b:=⟨_,List.getElem?_eq_getElem (by rw[h.len];have:=zcA hi;simpa[bgC,bnOf]using this)⟩;refine⟨b,hb,λs oc W l hs hl=>?_⟩;have FR:((s.ls.map List.length)[i]?)=some l.length:=by rw[List.getElem?_map,hl];rfl
  rw[hs.az]at FR;have Ma:i < t.arrays.length:=by rw[<-h.len];exact(List.getElem?_eq_some_iff.1 hb).1
  have Pr:t.arrays[i].size.toNat =l.length:=by
   have h9:(t.arrays.map λa=>a.size.toNat)[i]?=some l.length:=FR;rw[List.getElem?_map,List.getElem?_eq_getElem Ma]at h9;simpa using h9
  have h8:=zgO hb (zhd (List.getElem?_eq_getElem Ma));rw[zbQ,Pr]at h8;rw[Me,Q9];unfold fA;rw[show posI (nmA t.arrays) nm=some i from hi];exact h8
 ·show wr.ownsRow B 28 1 (.slice A (begB (t.arrays.map (·.size))).length c) (begB (t.arrays.map (·.size))).length (rowL bs (begB (t.arrays.map (·.size))))
  rw[UV];have h9:=h.row;rw[Me]at h9;refine⟨h9.1,h9.2.imp id ?_⟩;rintro⟨g,cap,cur,e1,e2,e3⟩;exact⟨g,cap,cur,e1,by omega,e3⟩
 ·show bs.length=(begB (t.arrays.map (·.size))).length
  rw[UV,h.len]
 ·have:=h.each i b l hi hl;refine⟨?_,this.2⟩;show B<=b
  omega
 ·have e:(Value.slice A (begB (t.arrays.map (·.size))).length c).ownBlock =some V:=e;have:=Hb _ _ e;omega
 ·have e:(Value.slice A (begB (t.arrays.map (·.size))).length c).ownBlock =some b:=e;rw[UV]at e;exact h.rb b hb e
 ·show(zers t.vars.length).length <=1000/\(begB (t.arrays.map (·.size))).length <=1000/\∀l∈begB (t.arrays.map (·.size)),l.length<=1000
  rw[zbQ,UV];exact⟨by omega,by omega,λl hl=>by have:=(hz l hl).1;omega⟩
 ·simp[bgC,begB,zbQ]
