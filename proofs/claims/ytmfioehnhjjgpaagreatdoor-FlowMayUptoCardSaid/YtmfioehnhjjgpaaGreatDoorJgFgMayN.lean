/-
  The plain law of a tree without procedures, as to names: what is put in place of calls names what there is. No walk.
-/
import Derived.Test.YtmfioehnhjjgpaaGreatDoorFgMayP
set_option linter.unusedVariables false
set_option linter.unusedSimpArgs false
namespace Go.Proofs.YtmfioehnhjjgpaaGreatDoor
open Go.RowKit Go.Shelf

section
variable (SC AR:List UInt8→Prop)
def gX:Exs→Prop
 | .nil =>True
 | .cons k nm m args _ r=>((1≤k∧k≤11)∧0≤m∧(k≠1→m=0)∧(args.len:Int)=argc k∧(k=2→SC nm.data.toList)∧(k=3→AR nm.data.toList))∧gX args∧gX r
def gC:Cds→Prop
 | .nil =>True
 | .cons k args of_ _ r=>((1≤k∧k≤11)∧(3≤k→k≤8→args.len=2))∧gX SC AR args∧gC of_∧gC r
def gS:Sts→Prop
 | .nil =>True
 | .cons k nm args cond body els _ r=>((k=2→SC nm.data.toList∧args.len=1)∧(k=3→AR nm.data.toList∧args.len=2)∧(k=4→SC nm.data.toList))∧gX SC AR args∧gC SC AR cond∧gS body∧gS els∧gS r
end
theorem zpv:∀k:Int,1≤k→k≤11→(tabA zdh k).1 =argc k:=by
 intro k h1 h2
 rcases(show k=1∨k=2∨k=3∨k=4∨k=5∨k=6∨k=7∨k=8∨k=9∨k=10∨k=11 from by omega)with rfl|rfl|rfl|rfl|rfl|rfl|rfl|rfl|rfl|rfl|rfl<;>decide
theorem zpw:∀k:Int,3≤k→k≤8→(tabA zcz k).1 =2:=by
 intro k h1 h2
 rcases(show k=3∨k=4∨k=5∨k=6∨k=7∨k=8 from by omega)with rfl|rfl|rfl|rfl|rfl|rfl<;>decide
section
variable {SC SC' AR AR' G:List UInt8→Prop}
theorem ziL (h1:∀y,SC y→SC' y) (h2:∀y,AR y→AR' y):∀ {xs:Exs},gX SC AR xs→gX SC' AR' xs
 | .nil,_=>trivial
 | .cons _ _ _ _ _ _,⟨⟨a,b,c,d,e,f⟩,g,h⟩=>⟨⟨a,b,c,d,fun x=>h1 _ (e x),fun x=>h2 _ (f x)⟩,ziL h1 h2 g,ziL h1 h2 h⟩
theorem zlN (h1:∀y,SC y→SC' y) (h2:∀y,AR y→AR' y):∀ {xs:Cds},gC SC AR xs→gC SC' AR' xs
 | .nil,_=>trivial
 | .cons _ _ _ _ _,⟨a,b,c,d⟩=>⟨a,ziL h1 h2 b,zlN h1 h2 c,zlN h1 h2 d⟩
theorem zdz (h1:∀y,SC y→SC' y) (h2:∀y,AR y→AR' y):∀ {xs:Sts},gS SC AR xs→gS SC' AR' xs
 | .nil,_=>trivial
 | .cons _ _ _ _ _ _ _ _,⟨⟨a,b,c⟩,d,e,f,g,h⟩=>⟨⟨fun x=>⟨h1 _ (a x).1,(a x).2⟩,fun x=>⟨h2 _ (b x).1,(b x).2⟩,fun x=>h1 _ (c x)⟩,ziL h1 h2 d,zlN h1 h2 e,zdz h1 h2 f,zdz h1 h2 g,zdz h1 h2 h⟩
theorem znD {kn:Kn}:∀ {xs:Exs},okX xs=true→okUX kn xs→gX (fun y=>isK kn y 1) (fun y=>isK kn y 2) xs
 | .nil,_,_=>trivial
 | .cons k nm n args at_ r,h,⟨u1,u2,u3,u4⟩=>by
  simp only[okX,Bool.and_eq_true,Bool.or_eq_true,decide_eq_true_eq,beq_iff_eq]at h
  obtain⟨⟨⟨⟨⟨⟨⟨h1,h2⟩,h3⟩,h4⟩,h5⟩,h6⟩,h7⟩,h8⟩:=h
  exact⟨⟨⟨h1,h2⟩,h3,fun e=>by rcases h4 with h4|h4<;>omega,by rw[h6,zpv k h1 h2],u1,u2⟩,znD h7 u3,znD h8 u4⟩
theorem zpx {kn:Kn}:∀ {xs:Cds},okC xs=true→okUC kn xs→gC (fun y=>isK kn y 1) (fun y=>isK kn y 2) xs
 | .nil,_,_=>trivial
 | .cons k args of_ at_ r,h,⟨u1,u2,u3⟩=>by
  simp only[okC,Bool.and_eq_true,decide_eq_true_eq,beq_iff_eq]at h
  obtain⟨⟨⟨⟨⟨⟨h1,h2⟩,h3⟩,h4⟩,h5⟩,h6⟩,h7⟩:=h
  exact⟨⟨⟨h1,h2⟩,fun a b=>by have:=zpw k a b;omega⟩,znD h5 u1,zpx h6 u2,zpx h7 u3⟩
theorem zlO {kn:Kn}:∀ {xs:Sts},okS xs=true→okUS kn xs→gS (fun y=>isK kn y 1) (fun y=>isK kn y 2) xs
 | .nil,_,_=>trivial
 | .cons k nm args cond body els at_ r,h,⟨u0,u1,u2,u3,u4,u5⟩=>by
  simp only[okS,Bool.and_eq_true,Bool.or_eq_true,decide_eq_true_eq,beq_iff_eq]at h
  obtain⟨⟨⟨⟨⟨⟨⟨⟨⟨⟨⟨h1,h2⟩,h3⟩,h4⟩,h5⟩,h6⟩,h7⟩,h8⟩,h9⟩,h10⟩,h11⟩,h12⟩:=h
  refine⟨⟨fun e=>⟨u0.1 (.inl e),?_⟩,fun e=>⟨u0.2.1 e,?_⟩,fun e=>u0.1 (.inr e)⟩,znD h8 u1,zpx h9 u2,zlO h10 u3,zlO h11 u4,zlO h12 u5⟩
  ·subst e
   rcases h4 with h4|h4
   ·exact absurd h4 (by decide)
   ·have:(tabA zaB 2).1 =1:=by decide
    omega
  ·subst e
   rcases h4 with h4|h4
   ·exact absurd h4 (by decide)
   ·have:(tabA zaB 3).1 =2:=by decide
    omega
theorem zc5 {n:Nms} (hn:∀nm:ByteArray,SC nm.data.toList→SC' (ofN n nm).data.toList):∀ {xs:Exs},gX SC AR xs→gX SC' AR (zaO n xs)
 | .nil,_=>trivial
 | .cons k nm m args at_ r,⟨⟨a,b,c,d,e,f⟩,g,h⟩=>by
  refine⟨⟨a,b,c,by rw[zay];exact d,fun x=>?_,fun x=>?_⟩,zc5 hn g,zc5 hn h⟩
  ·rw[if_pos x];exact hn _ (e x)
  ·rw[if_neg (by omega)];exact f x
theorem zf1 {n:Nms} (hn:∀nm:ByteArray,SC nm.data.toList→SC' (ofN n nm).data.toList):∀ {xs:Cds},gC SC AR xs→gC SC' AR (zbb n xs)
 | .nil,_=>trivial
 | .cons k args of_ at_ r,⟨⟨a,b⟩,c,d,e⟩=>⟨⟨a,fun x y=>by rw[zay];exact b x y⟩,zc5 hn c,zf1 hn d,zf1 hn e⟩
theorem zlP:∀ {xs ys:Sts},gS SC AR xs→gS SC AR ys→gS SC AR (Sts.app xs ys)
 | .nil,_,_,h=>h
 | .cons _ _ _ _ _ _ _ _,_,⟨a,b,c,d,e,f⟩,h=>⟨a,b,c,d,e,zlP f h⟩
def vS (s:Ist) (y:List UInt8):Prop:=y∈nmV s.vars
theorem zhZ (l m:List Va):nmV (l++m)=nmV l++nmV m:=by simp[nmV]
theorem zdt {s s':Ist} (h:NewsP s s') (y:List UInt8) (hy:vS s y):vS s' y:=by
 obtain⟨_,_,news,e,_⟩:=h
 unfold vS at hy ⊢
 rw[e,zhZ]
 exact List.mem_append.2 (.inl hy)
def zqR (G AR:List UInt8→Prop) (call:ByteArray→Exs→Nms→Int→Ist→Sts×Ist):Prop:=∀(SC:List UInt8→Prop) nm args n at_ s,gX SC AR args→(∀nm:ByteArray,SC nm.data.toList→vS s (ofN n nm).data.toList)→(∀y,G y→vS s y)→gS (vS (call nm args n at_ s).2) AR (call nm args n at_ s).1
theorem zfh {call:ByteArray→Exs→Nms→Int→Ist→Sts×Ist} (hc:zqR G AR call) (hw:∀nm args n at_ s,NewsP s (call nm args n at_ s).2):∀(xs:Sts) (SC:List UInt8→Prop) (n:Nms) (s:Ist),gS SC AR xs→(∀nm:ByteArray,SC nm.data.toList→vS s (ofN n nm).data.toList)→(∀y,G y→vS s y)→gS (vS (inlS call xs n s).2) AR (inlS call xs n s).1
 | .nil,SC,n,s,_,_,_=>trivial
 | .cons k nm args cond body els at_ r,SC,n,s,⟨⟨h1,h2,h3⟩,h4,h5,h6,h7,h8⟩,hn,hg=>by
  unfold inlS
  split
  ·exact trivial
  split
  ·have k1:=zdt (hw nm args n at_ s)
   have k2:=zdt (zaK hw r n (call nm args n at_ s).2)
   exact zlP (zdz k2 (fun _ h=>h) (hc SC _ _ _ _ _ h4 hn hg)) (zfh hc hw r SC n _ h8 (fun nm h=>k1 _ (hn nm h)) (fun y h=>k1 _ (hg y h)))
  ·rename_i hk
   have k1:=zdt (zaK hw body n ⟨s.calls,s.vars,s.many+1⟩)
   have k2:=zdt (zaK hw els n (inlS call body n ⟨s.calls,s.vars,s.many+1⟩).2)
   have k3:=zdt (zaK hw r n (inlS call els n (inlS call body n ⟨s.calls,s.vars,s.many+1⟩).2).2)
   have hn0:∀nm:ByteArray,SC nm.data.toList→vS ⟨s.calls,s.vars,s.many+1⟩ (ofN n nm).data.toList :=hn
   have hg0:∀y,G y→vS ⟨s.calls,s.vars,s.many+1⟩ y:=hg
   have ha:=fun nm h=>k3 _ (k2 _ (k1 _ (hn0 nm h)))
   refine⟨⟨fun e=>⟨?_,?_⟩,fun e=>⟨?_,?_⟩,fun e=>?_⟩,zc5 ha h4,zf1 ha h5,?_,?_,?_⟩
   ·rw[if_neg (by omega)];exact ha nm (h1 e).1
   ·rw[zay];exact(h1 e).2
   ·rw[if_pos e];exact(h2 e).1
   ·rw[zay];exact(h2 e).2
   ·rw[if_neg (by omega)];exact ha nm (h3 e)
   ·exact zdz (fun y h=>k3 _ (k2 _ h)) (fun _ h=>h) (zfh hc hw body SC n _ h6 hn0 hg0)
   ·exact zdz (fun y h=>k3 _ h) (fun _ h=>h) (zfh hc hw els SC n _ h7 (fun nm h=>k1 _ (hn0 nm h)) (fun y h=>k1 _ (hg0 y h)))
   ·exact zfh hc hw r SC n _ h8 (fun nm h=>k2 _ (k1 _ (hn0 nm h))) (fun y h=>k2 _ (k1 _ (hg0 y h)))
theorem zlQ {p:ByteArray} {c:Nat} {n:Nms} {at_:Int} (hn:∀nm:ByteArray,SC nm.data.toList→SC' (ofN n nm).data.toList):∀ {vs:List Va} {xs:Exs},(∀v∈vs,SC' (parN p c v.nm).data.toList)→gX SC AR xs→gS SC' AR (zbx p c n at_ vs xs)
 |v::vs,.cons k nm m a b r,hv,⟨h1,h2,h3⟩=>
  ⟨⟨fun _=>⟨hv v (List.mem_cons_self ..),by rw[zay];rfl⟩,fun e=>absurd e (by decide),fun e=>absurd e (by decide)⟩,zc5 (xs:= .cons k nm m a b .nil) hn ⟨h1,h2,trivial⟩,trivial,trivial,trivial,zlQ hn (fun v h=>hv v (List.mem_cons_of_mem _ h)) h3⟩
 |v::vs,.nil,_,_=>trivial
 | [],_,_,_=>by simp[zbx,gS]
theorem zlR {p:ByteArray} {c:Nat}:∀(vs:List Va) (o:Nms) (y:List UInt8),(∃v∈vs,v.nm.data.toList=y∧ownN p c vs o y=some (parN p c v.nm))∨(y∉nmV vs∧ownN p c vs o y=o y)
 | [],o,y=> .inr ⟨by simp[nmV],rfl⟩
 |v::vs,o,y=>by
  rcases zlR vs (fun y=>if y=v.nm.data.toList then some (parN p c v.nm)else o y) y with⟨u,hu,he,hq⟩|⟨hu,hq⟩
  ·exact .inl ⟨u,List.mem_cons_of_mem _ hu,he,hq⟩
  ·by_cases hy:y=v.nm.data.toList
   ·exact .inl ⟨v,List.mem_cons_self ..,hy.symm,by show ownN p c vs _ y=_;rw[hq,if_pos hy]⟩
   ·refine .inr ⟨?_,by show ownN p c vs _ y=_;rw[hq,if_neg hy]⟩
    intro hm
    have hm:y∈v.nm.data.toList::nmV vs:=hm
    rcases List.mem_cons.1 hm with h|h
    ·exact hy h
    ·exact hu h
theorem zpy {procs:List UInt8→Option Prc} (hq:∀y x,procs y=some x→gS (fun y=>y∈nmV x.params∨G y) AR x.body) {stm:Sts→Nms→Ist→Sts×Ist} (hw:∀xs n s,NewsP s (stm xs n s).2)
  (hs:∀(xs:Sts) (SC:List UInt8→Prop) (n:Nms) (s:Ist),gS SC AR xs→(∀nm:ByteArray,SC nm.data.toList→vS s (ofN n nm).data.toList)→(∀y,G y→vS s y)→gS (vS (stm xs n s).2) AR (stm xs n s).1):zqR G AR (zcB procs stm):=by
 intro SC nm args n at_ s ha hn hg
 unfold zcB
 cases e:procs nm.data.toList with
 |none=>exact trivial
 |some x=>
  have hpar:∀v∈x.params,vS ⟨s.calls+1,s.vars++x.params.map (fun v=>⟨parN x.nm (s.calls+1) v.nm,v.at_⟩),s.many+(x.params.length+1)⟩ (parN x.nm (s.calls+1) v.nm).data.toList :=fun v hv=>by
   unfold vS
   rw[zhZ]
   refine List.mem_append.2 (.inr ?_)
   unfold nmV
   rw[List.map_map]
   exact List.mem_map.2 ⟨v,hv,rfl⟩
  have hold:∀y,vS s y→vS ⟨s.calls+1,s.vars++x.params.map (fun v=>⟨parN x.nm (s.calls+1) v.nm,v.at_⟩),s.many+(x.params.length+1)⟩ y:=fun y hy=>by
   unfold vS at hy ⊢
   rw[zhZ]
   exact List.mem_append.2 (.inl hy)
  have hb:=hs x.body (fun y=>y∈nmV x.params∨G y) (ownN x.nm (s.calls+1) x.params fun _=>none) ⟨s.calls+1,s.vars++x.params.map (fun v=>⟨parN x.nm (s.calls+1) v.nm,v.at_⟩),s.many+(x.params.length+1)⟩ (hq _ _ e) (fun nm h=>by
   unfold ofN
   rcases zlR (p:=x.nm) (c:=s.calls+1) x.params (fun _=>none) nm.data.toList with⟨v,hv,_,hq⟩|⟨hu,hq⟩
   ·rw[hq];exact hpar v hv
   ·rw[hq]
    rcases h with h|h
    ·exact absurd h hu
    ·exact hold _ (hg _ h)) (fun y h=>hold _ (hg y h))
  have kk:=zdt (hw x.body (ownN x.nm (s.calls+1) x.params fun _=>none) ⟨s.calls+1,s.vars++x.params.map (fun v=>⟨parN x.nm (s.calls+1) v.nm,v.at_⟩),s.many+(x.params.length+1)⟩)
  refine zlP ⟨⟨fun e=>absurd e (by decide),fun e=>absurd e (by decide),fun e=>absurd e (by decide)⟩,trivial,trivial,trivial,trivial,zlQ (SC:=SC) (fun nm h=>kk _ (hold _ (hn nm h))) (fun v hv=>kk _ (hpar v hv)) ha⟩ hb
theorem zox {procs:List UInt8→Option Prc} (hp:zdl procs) (hq:∀y x,procs y=some x→gS (fun y=>y∈nmV x.params∨G y) AR x.body):∀(f:Nat) (xs:Sts) (SC:List UInt8→Prop) (n:Nms) (s:Ist),gS SC AR xs→(∀nm:ByteArray,SC nm.data.toList→vS s (ofN n nm).data.toList)→(∀y,G y→vS s y)→gS (vS (inlF procs f xs n s).2) AR (inlF procs f xs n s).1
 |0,xs,SC,n,s,h,hn,hg=>zfh (G:=G) (call:=fun _ _ _ _ s=>(.nil,s)) (fun _ _ _ _ _ _ _ _ _=>trivial) (fun _ _ _ _ s=>NewsP.refl s) xs SC n s h hn hg
 |f+1,xs,SC,n,s,h,hn,hg=>zfh (zpy hq (zcc hp f) (zox hp hq f)) (zdm hp (zcc hp f)) xs SC n s h hn hg
end
end Go.Proofs.YtmfioehnhjjgpaaGreatDoor

namespace Go.Proofs.YtmfioehnhjjgpaaGreatDoor
open Go.RowKit Go.Shelf

def KnG (G AR:List UInt8→Prop) (kn:Kn):Prop:=∀y,(isK kn y 1→G y)∧(isK kn y 2→AR y)
section
variable {G AR:List UInt8→Prop}
theorem zlS {kn:Kn} (h:KnG G AR kn) (t:List UInt8) (v:Int):KnG G AR (kn.put t (3,v)):=fun y=>by
 refine⟨fun⟨u,hu⟩=>?_,fun⟨u,hu⟩=>?_⟩
 all_goals
  unfold Kn.put at hu
  split at hu
  ·simp at hu
 ·exact(h y).1 ⟨u,hu⟩
 ·exact(h y).2 ⟨u,hu⟩
theorem zhf:∀(xs:List Prc) {kn:Kn},KnG G AR kn→KnG G AR (zkQ xs kn)
 | [],_,h=>h
 |x::r,_,h=>zhf r (zlS h _ _)
theorem zlT:∀ {xs:List Prc} {kn:Kn},KnG G AR kn→zgK xs kn→∀x∈xs,∃kn',KnG G AR kn'∧okUS (putL (1,0) (nmV x.params) kn') x.body
 | [],_,_,_,_,h=>by simp at h
 |p::r,kn,hk,⟨⟨_,_,h3⟩,h4⟩,x,hx=>by
  rcases List.mem_cons.1 hx with rfl|hx
  ·exact⟨kn,hk,h3⟩
  ·exact zlT (zlS hk _ _) h4 x hx
end
theorem zqS (t:Tre):KnG (fun y=>y∈nmV t.vars) (fun y=>y∈nmA t.arrays) (knT t):=fun y=>by
 unfold knT
 refine⟨fun⟨u,hu⟩=>?_,fun⟨u,hu⟩=>?_⟩
 all_goals
  unfold putL at hu
  split at hu
  ·simp at hu
  split at hu
  ·first
    |assumption
    |simp at hu
  split at hu
  ·first
    |assumption
    |simp at hu
  ·simp at hu
theorem znE {t:Tre} (h:OkT t):gS (vS (inlQ t).2) (fun y=>y∈nmA t.arrays) (inlQ t).1 :=by
 have ht:=h.tree
 unfold okTr okPs zb9 at ht
 simp only[Bool.and_eq_true,List.all_eq_true]at ht
 refine zox (G:=fun y=>y∈nmV t.vars) (AR:=fun y=>y∈nmA t.arrays) (zfK h) (fun y x e=>?_) t.procs.length t.main (fun y=>y∈nmV t.vars) (fun _=>none) ⟨0,t.vars,0⟩ ?_ (fun nm h=>h) (fun y h=>h)
 ·obtain⟨hx,_⟩:=zbO e
  obtain⟨kn',hk,hu⟩:=zlT (zqS t) h.each x hx
  refine zdz (fun y hy=>?_) (fun y hy=>?_) (zlO (ht.2 x hx).2 hu)
  ·obtain⟨u,hu⟩:=hy
   unfold putL at hu
   split at hu
   ·exact .inl (by assumption)
   ·exact .inr ((hk y).1 ⟨u,hu⟩)
  ·obtain⟨u,hu⟩:=hy
   unfold putL at hu
   split at hu
   ·simp at hu
   ·exact(hk y).2 ⟨u,hu⟩
 ·have hk:=zhf (G:=fun y=>y∈nmV t.vars) (AR:=fun y=>y∈nmA t.arrays) t.procs (zqS t)
  exact zdz (fun y=>(hk y).1) (fun y=>(hk y).2) (zlO ht.1.1.2 h.main)
/-! deeds -/
def NoOk (SC:List UInt8→Prop) (sc:NoN) (m:Int):Prop:=∀nm:ByteArray,SC nm.data.toList→0≤sc.get nm∧sc.get nm < m
theorem zlU:∀ {l:List (List UInt8)} {y:List UInt8},y∈l→∃n,zaE l y=some n:=by
 intro l y h
 unfold zaE
 have:((l.zipIdx.reverse.find? fun x=>x.1==y)).isSome =true:=by
  rw[List.find?_isSome]
  obtain⟨i,hi,he⟩:=List.mem_iff_getElem.1 h
  exact⟨(y,i),List.mem_reverse.2 (List.mem_zipIdx_iff_getElem?.2 (by rw[List.getElem?_eq_getElem hi,he])),by simp⟩
 obtain⟨x,hx⟩:=Option.isSome_iff_exists.1 this
 exact⟨x.2,by rw[hx];rfl⟩
theorem zfi (l:List (List UInt8)):NoOk (fun y=>y∈l) (zaE l) l.length:=fun nm h=>by
 obtain⟨n,hn⟩:=zlU h
 have:=ziI hn
 unfold NoN.get
 rw[hn]
 exact this
section
variable {SC AR:List UInt8→Prop} {sc ar:NoN} {vars arrs:Int}
theorem zdK (hs:NoOk SC sc vars) (ha:NoOk AR ar arrs):∀ {xs:Exs},gX SC AR xs→mayX vars arrs (numX sc ar xs)=true
 | .nil,_=>rfl
 | .cons k nm m args at_ r,⟨⟨⟨a1,a2⟩,b,c,d,e,f⟩,g,h⟩=>by
  simp only[numX,mayX,Bool.and_eq_true]
  refine⟨⟨?_,zdK hs ha g⟩,zdK hs ha h⟩
  unfold mayK
  rw[zbW]
  simp only[Bool.and_eq_true,decide_eq_true_eq,beq_iff_eq]
  refine⟨⟨⟨a1,a2⟩,?_⟩,d⟩
  unfold zbi numN
  by_cases k1:k=1
  ·rw[if_pos k1,if_neg (by omega),if_neg (by omega)]
   simpa using b
  rw[if_neg k1]
  by_cases k2:k=2
  ·rw[if_pos k2,if_pos k2]
   simpa using hs nm (e k2)
  rw[if_neg k2,if_neg k2]
  by_cases k3:k=3
  ·rw[if_pos k3,if_pos k3]
   simpa using ha nm (f k3)
  rw[if_neg k3,if_neg k3]
  simpa using c k1
def Dd (vars arrs:Int) (s s':FgS):Prop:=∃L,s'.edges=s.edges++L∧∀e∈L,mayD vars arrs e.kind e.n e.cmp e.args=true
theorem Dd.refl (s:FgS):Dd vars arrs s s:=⟨[],by simp,by simp⟩
theorem Dd.trans {s s1 s2:FgS} (h:Dd vars arrs s s1) (k:Dd vars arrs s1 s2):Dd vars arrs s s2:=by
 obtain⟨L,e,hl⟩:=h
 obtain⟨M,f,hm⟩:=k
 refine⟨L++M,by rw[f,e,List.append_assoc],fun x hx=>?_⟩
 rcases List.mem_append.1 hx with hx|hx
 ·exact hl x hx
 ·exact hm x hx
theorem zbG (s:FgS):Dd vars arrs s s.node:=⟨[],by simp[FgS.node],by simp⟩
theorem zfj (s:FgS) (a b c k n x:Int) (xs:Exs) (h:mayD vars arrs k n x (numX sc ar xs)=true):Dd vars arrs s (s.put sc ar a b c k n x xs):=
 ⟨_,rfl,fun e he=>by obtain rfl:=List.mem_singleton.1 he;exact h⟩
theorem zcj (s:FgS) (a b c k:Int) (h:k=1∨k=2∨k=7∨k=8):Dd vars arrs s (s.put sc ar a b c k 0 0 .nil):=
 zfj s a b c k 0 0 .nil (by rcases h with rfl|rfl|rfl|rfl<;>simp[mayD,headD,zgW,zgV,cmpD,numX,mayX,Exs.len])
theorem zlV {k:Int} (h1:3≤k) (h2:k≤8):3≤oppK k∧oppK k≤8:=by
 unfold oppK
 repeat' split
 all_goals omega
theorem zh0 (hs:NoOk SC sc vars) (ha:NoOk AR ar arrs):∀(xs:Cds) (i:Nat) (f y n:Int) (s:FgS),gC SC AR xs→Dd vars arrs s (nthW (zal sc ar xs) i f y n s)
 | .nil,i,f,y,n,s,_=>by
  simp only[zal,nthW,List.getD_eq_getElem?_getD,List.getElem?_nil,Option.getD_none]
  exact Dd.refl _
 | .cons k args of_ at_ r,i+1,f,y,n,s,⟨_,_,_,h⟩=>by
  have:=zh0 hs ha r i f y n s h
  simpa only[zal,nthW,List.getD_cons_succ]using this
 | .cons k args of_ at_ r,0,f,y,n,s,⟨⟨⟨k1,k11⟩,hl⟩,h1,h2,_⟩=>by
  have ho:=fun i f y n s=>zh0 hs ha of_ i f y n s h2
  show Dd vars arrs s (wayC sc ar k args (zal sc ar of_) at_ f y n s)
  unfold wayC
  split
  ·exact zcj _ _ _ _ _ (.inl rfl)
  split
  ·exact zcj _ _ _ _ _ (.inl rfl)
  split
  ·exact ho 0 _ _ _ _
  split
  ·exact((zbG s).trans (ho 0 _ _ _ _)).trans (ho 1 _ _ _ _)
  split
  ·exact((zbG s).trans (ho 0 _ _ _ _)).trans (ho 1 _ _ _ _)
  ·have g1:3≤k:=by omega
   have g2:k≤8:=by omega
   have hx:=zdK hs ha h1
   have hl':=hl g1 g2
   have go:∀c,3≤c∧c≤8→mayD vars arrs 6 0 c (numX sc ar args)=true:=fun c hc=>by
    unfold mayD
    rw[hx,zbW,hl']
    simp[headD,zgW,zgV,cmpD,hc.1,hc.2]
   exact(zfj _ _ _ _ _ _ _ _ (go k ⟨g1,g2⟩)).trans (zfj _ _ _ _ _ _ _ _ (go _ (zlV g1 g2)))
theorem zoy (hs:NoOk SC sc vars) (ha:NoOk AR ar arrs) (k:Int) (nm:ByteArray) (args:Exs) (cond:Cds) (b e:List Mk) (a f t:Int) (s:FgS)
  (hb:∀f t a s,Dd vars arrs s (blkF sc ar b f t a s)) (he:∀f t a s,Dd vars arrs s (blkF sc ar e f t a s))
  (h1:(k=2→SC nm.data.toList∧args.len=1)∧(k=3→AR nm.data.toList∧args.len=2)∧(k=4→SC nm.data.toList)) (h2:gX SC AR args) (h3:gC SC AR cond):Dd vars arrs s (stmF sc ar k nm args (zal sc ar cond) b e a f t s):=by
 have hw:=fun i f y n s=>zh0 hs ha cond i f y n s h3
 have hx:=zdK hs ha h2
 unfold stmF
 split
 ·exact zcj _ _ _ _ _ (by omega)
 split
 ·rename_i hk
  obtain⟨g1,g2⟩:=h1.1 hk
  have:=hs nm g1
  refine zfj _ _ _ _ _ _ _ _ ?_
  unfold mayD
  rw[hx,zbW,g2]
  simp[headD,zgW,zgV,cmpD,this.1,this.2]
 split
 ·rename_i hk
  obtain⟨g1,g2⟩:=h1.2.1 hk
  have:=ha nm g1
  refine zfj _ _ _ _ _ _ _ _ ?_
  unfold mayD
  rw[hx,zbW,g2]
  simp[headD,zgW,zgV,cmpD,this.1,this.2]
 split
 ·rename_i hk
  have:=hs nm (h1.2.2 hk)
  refine zfj _ _ _ _ _ _ _ _ ?_
  simp[mayD,headD,zgW,zgV,cmpD,numX,mayX,Exs.len,this.1,this.2]
 split
 ·exact((zbG s).trans (hw 0 _ _ _ _)).trans (zcj _ _ _ _ _ (by omega))
 split
 ·exact((zbG s).trans (hw 0 _ _ _ _)).trans (zcj _ _ _ _ _ (by omega))
 split
 ·exact((((zbG s).trans (zbG _)).trans (hw 0 _ _ _ _)).trans (hb _ _ _ _)).trans (he _ _ _ _)
 split
 ·exact((((((zbG s).trans (zbG _)).trans (zbG _)).trans (zcj _ _ _ _ _ (by omega))).trans (zcj _ _ _ _ _ (by omega))).trans (hw 0 _ _ _ _)).trans (hb _ _ _ _)
 ·exact Dd.refl _
theorem zfk (hs:NoOk SC sc vars) (ha:NoOk AR ar arrs):∀(xs:Sts) (f t a:Int) (s:FgS),gS SC AR xs→Dd vars arrs s (blkF sc ar (mksS sc ar xs) f t a s)
 | .nil,f,t,a,s,_=>by
  simp only[mksS,blkF]
  exact zcj _ _ _ _ _ (.inl rfl)
 | .cons k nm args cond body els at_ .nil,f,t,a,s,⟨h1,h2,h3,h4,h5,_⟩=>by
  simp only[mksS,blkF]
  exact zoy hs ha k nm args cond _ _ at_ f t s (fun f t a s=>zfk hs ha body f t a s h4) (fun f t a s=>zfk hs ha els f t a s h5) h1 h2 h3
 | .cons k nm args cond body els at_ (.cons k' nm' args' cond' body' els' at' r),f,t,a,s,⟨h1,h2,h3,h4,h5,h6⟩=>by
  have h:=fun f t a s=>zfk hs ha (.cons k' nm' args' cond' body' els' at' r) f t a s h6
  simp only[mksS,blkF]at h ⊢
  exact((zbG s).trans (zoy hs ha k nm args cond _ _ at_ f s.nodes s.node (fun f t a s=>zfk hs ha body f t a s h4) (fun f t a s=>zfk hs ha els f t a s h5) h1 h2 h3)).trans (h _ _ _ _)
end
theorem znF {t:Tre} (hg:(graT t).2 =0):mayG (graT t).1 =true∧(inlT t).2 =0:=by
 unfold graT at hg ⊢
 split at hg
 ·rename_i h0
  rw[if_pos h0]
  refine⟨?_,h0⟩
  split at hg
  ·exact absurd hg (by decide)
  ·rename_i hn
   rw[if_neg hn]
   unfold inlT at h0 hn ⊢
   split at h0
   ·rename_i hc
    rw[if_pos hc]at hn ⊢
    split at h0
    ·exact absurd h0 (by decide)
    ·rename_i hf
     rw[if_neg hf]at hn ⊢
     have hok:=zfH hc
     have hf':zbs (inlQ t).2 =false:=by simpa using hf
     obtain⟨_,_,hv32,_⟩:=zfL hok hf'
     obtain⟨w1,w2,w3⟩:=znC ⟨(inlQ t).2.vars,t.arrays, [],(inlQ t).1⟩
     have ht:=hok.tree
     unfold okTr at ht
     have hfew:=hok.few
     obtain⟨L,hL,hd⟩:=zfk (SC:=vS (inlQ t).2) (AR:=fun y=>y∈nmA t.arrays) (zfi (nmV (inlQ t).2.vars)) (zfi (nmA t.arrays)) (inlQ t).1 0 1 0 ⟨2, []⟩ (znE hok)
     have hL:(grF ⟨(inlQ t).2.vars,t.arrays, [],(inlQ t).1⟩).edges =L:=hL
     have hL2:(grF ⟨(inlQ t).2.vars,t.arrays, [],(inlQ t).1⟩).edges =L:=hL
     obtain⟨T,hT⟩:=nmq (grF ⟨(inlQ t).2.vars,t.arrays, [],(inlQ t).1⟩)
     have hn:¬(2048 < T.edges.length∨4096 < T.nodes):=by rw[hT];exact hn
     show mayG ⟨((inlQ t).2.vars.length :Int),t.arrays.map (fun x=>x.size),(grF ⟨(inlQ t).2.vars,t.arrays, [],(inlQ t).1⟩).nodes,0,1,(grF ⟨(inlQ t).2.vars,t.arrays, [],(inlQ t).1⟩).edges⟩=true
     rw[←hT]at w1 w2 w3 hL2 ⊢
     have l4:t.arrays.length≤4:=(fewT_iff.1 hfew).2.1
     have hsz:=hok.sizes
     unfold mayG
     simp only[Bool.and_eq_true,Bool.not_eq_true',Bool.or_eq_false_iff,List.all_eq_true]
     refine⟨⟨⟨?_,?_⟩,?_⟩,w3⟩
     ·unfold odd1
      simp only[Bool.or_eq_false_iff,decide_eq_false_iff_not,List.length_map]
      omega
     ·unfold odd2
      simp only[Bool.or_eq_false_iff,Bool.not_eq_false',Bool.and_eq_true,decide_eq_true_eq]
      refine⟨⟨⟨⟨by decide,by omega⟩,by decide,by omega⟩,by decide⟩,?_⟩
      rw[List.any_eq_false]
      intro n hm
      obtain⟨x,hx,rfl⟩:=List.mem_map.1 hm
      have:=hsz x hx
      unfold zaS
      simp only[Bool.or_eq_true,decide_eq_true_eq]
      omega
     ·rw[List.any_eq_false]
      intro e he
      have h2:=w2 e he
      have h3:=hd e (hL2▸he)
      unfold zcd
      have e1:(nmV (inlQ t).2.vars).length =(inlQ t).2.vars.length :=by simp[nmV]
      have e2:(nmA t.arrays).length =t.arrays.length:=by simp[nmA]
      rw[e1,e2]at h3
      rw[List.length_map,h3]
      simp[h2.1.1,h2.1.2,h2.2.1,h2.2.2]
   ·rename_i hc
    exact absurd h0 hc
 ·rename_i h0
  exact absurd hg h0
end Go.Proofs.YtmfioehnhjjgpaaGreatDoor
