/- A regi. -/
import Derived.Test.YtfomomaomggpbaaGreatDoorJgBgLd
set_option linter.all false
set_option maxHeartbeats 3200000
set_option maxRecDepth 100000
namespace Go.Proofs.YtfomomaomggpbaaGreatDoor
open Go.RowKit
def zipM:List Nat->List Bool->Array Bool->Array Bool
 |i::is,b::bs,L=>zipM is bs (L.setIfInBounds i b)
 |_,_,L=>L
def aE:List Nat->List (Option Value)->Act->Act
 |d::ds,some v::os,a=>aE ds os (a.put (some d) v)
 |d::ds,none::os,a=>aE ds os a
 |_,_,a=>a
theorem ziw:∀(is:List Nat)(bs:List Bool)(L:Array Bool)(i:Nat)(c:Bool),i∉is->(zipM is bs L).setIfInBounds i c=zipM is bs (L.setIfInBounds i c)
 | [],_,_,_,_,_=>rfl
 |_::_, [],_,_,_,_=>rfl
 |j::is,b::bs,L,i,c,h=>by
  simp only[zipM];rw[ziw is bs _ i c (λhm=>h (List.mem_cons_of_mem _ hm)),Array.setIfInBounds_comm _ _ (λe:j=i=>h (by rw[e];exact List.mem_cons_self))]
theorem zix:∀(is:List Nat)(bs:List Bool)(L:Array Bool)(p i:Nat),is.Nodup->is[p]?=some i->bs.length=is.length->(zipM is bs L).setIfInBounds i true=zipM is (bs.set p true) L
 | [],_,_,p,_,_,h,_=>by simp at h
 |_::_, [],_,_,_,_,_,h=>by simp at h
 |j::is,b::bs,L,0,i,hn,h,_=>by
  simp only[List.getElem?_cons_zero,Option.some.injEq]at h;subst h;simp only[zipM,List.set_cons_zero];rw[ziw is bs _ j true (List.nodup_cons.1 hn).1,Array.setIfInBounds_setIfInBounds]
 |j::is,b::bs,L,p+1,i,hn,h,hl=>by
  simp only[List.getElem?_cons_succ]at h;simp only[zipM,List.set_cons_succ];exact zix is bs _ p i (List.nodup_cons.1 hn).2 h (by simpa using hl)
def zfx:Nat->List (List Bool)
 |0=> [[]]
 |n+1=>(zfx n).map (false:: ·)++(zfx n).map (true:: ·)
theorem zfy:∀(l:List Bool),l∈zfx l.length
 | []=>by simp[zfx]
 |b::l=>by
  have:=zfy l;cases b<;>simp[zfx,this]
def rdyB (md:Region.Mode)(ops:Array Oper)(is:List Nat)(L:Array Bool)(va:List Bool->Bool):Bool:=(zfx is.length).all λbs=> !va bs || (let r:=Region.ready md ops (zipM is bs L);(bs.all id || !r.isEmpty)&&r.all λi=>bs.all id || (List.range is.length).any λp=>is[p]?==some i&&bs[p]?==some false&&va (bs.set p true))
section
variable {P:Program} {Q:Exit->Act->World->Prop} {md:Region.Mode} {S:World->Prop} {n:Nat->Bool} {ops:Array Oper}
abbrev flags (o:List (Option Value)):List Bool:=o.map (·.isSome)
theorem ziy {f:Nat}{L:Array Bool}{a:Act}(is ds:List Nat)(va:List Bool->Bool)(I:List (Option Value)->World->Prop)(hn:is.Nodup)(hS:∀o w,I o w->S w)(hr:rdyB md ops is L va=true)
  (Pb:∀o w p i,I o w->o.length=is.length->is[p]?=some i->o[p]?=some none->va ((flags o).set p true)=true->wpOp P ops Q i (λa' w'=>∃v,a'=aE ds (o.set p (some v)) a/\I (o.set p (some v)) w') (aE ds o a) w)
  (Pg:∀o w,I o w->o.length=is.length->(flags o).all id=true->wpE P md ops Q S n f (zipM is (flags o) L) (aE ds o a) w):
  ∀(m:Nat)(o:List (Option Value))(w:World),((flags o).filter (λb=> !b)).length =m->I o w->o.length=is.length->va (flags o)=true->wpE P md ops Q S n (f+m) (zipM is (flags o) L) (aE ds o a) w
 |0,o,w,hm,hI,hl,_=>Pg o w hI hl (by
   rw[List.all_eq_true];intro b hb;have h0:(flags o).filter (λb=> !b)= []:=List.eq_nil_of_length_eq_zero hm;have:=List.filter_eq_nil_iff.1 h0 b hb;simpa using this)
 |m+1,o,w,hm,hI,hl,K9=>by
  have h0:=List.all_eq_true.1 hr (flags o) (by have:=zfy (flags o);rwa [show(flags o).length =is.length by simpa using hl]at this);rw[K9]at h0;have Pc:(flags o).all id=false:=by
   cases e:(flags o).all id with
   |false=>rfl
   |true=>
    have h1:(flags o).filter (λb=> !b)= []:=List.filter_eq_nil_iff.2 λb hb=>by
     have:=List.all_eq_true.1 e b hb;simpa using this
    rw[h1]at hm;simp at hm
  simp only[Bool.not_true,Bool.false_or,Pc,Bool.and_eq_true,Bool.not_eq_true']at h0;refine⟨λe=>?_,λi hi=>?_⟩
  ·rw[e]at h0;simp at h0
  ·have h1:=List.all_eq_true.1 h0.2 i hi;obtain⟨p,_,hp⟩:=List.any_eq_true.1 h1;simp only[Bool.and_eq_true,beq_iff_eq]at hp;obtain⟨⟨Ks,J0⟩,QD⟩:=hp;have FQ:o[p]?=some none:=by
    simp only[flags,List.getElem?_map]at J0;cases e:o[p]? with
    |none=>rw[e]at J0;simp at J0
    |some x=>rw[e]at J0;cases x<;>simp at J0;rfl
   have FR:∀v,flags (o.set p (some v))=(flags o).set p true:=λv=>by simp[flags,List.map_set]
   refine wpOp_mono (λa' w' h'=>?_) (Pb o w p i hI hl Ks FQ QD);obtain⟨v,rfl,jZ⟩:=h';refine⟨λ_ _=>hS _ _ jZ,?_⟩;rw[zix is (flags o) L p i hn Ks (by simpa using hl),<-FR v];refine ziy is ds va I hn hS hr Pb Pg m (o.set p (some v)) w' ?_ jZ (by simpa using hl) (by rw[FR];exact QD);rw[FR];have hc:∀(l:List Bool)(p:Nat),l[p]?=some false->((l.set p true).filter (λb=> !b)).length +1=(l.filter (λb=> !b)).length :=by
    intro l
    induction l with
    |nil=>intro p h;simp at h
    |cons b l ih=>
     intro p h;cases p with
     |zero=>
      simp only[List.getElem?_cons_zero,Option.some.injEq]at h;subst h;simp
     |succ p=>
      simp only[List.getElem?_cons_succ]at h;have:=ih p h;cases b<;>simp at this ⊢ <;>omega
   have:=hc _ _ J0;omega
theorem zbP {f:Nat}{L:Array Bool}{a:Act}{w:World}(k:Nat)(is ds:List Nat)(va:List Bool->Bool)(I:List (Option Value)->World->Prop)(hk:is.length=k)(hn:is.Nodup)(hL:zipM is (List.replicate k false) L=L)(hp:aE ds (List.replicate k none) a=a)(hS:∀o w,I o w->S w)(hr:rdyB md ops is L va=true)(hv:va (List.replicate k false)=true)
  (Pb:∀o w p i,I o w->o.length=k->is[p]?=some i->o[p]?=some none->va ((flags o).set p true)=true->wpOp P ops Q i (λa' w'=>∃v,a'=aE ds (o.set p (some v)) a/\I (o.set p (some v)) w') (aE ds o a) w)
  (Pg:∀o w,I o w->o.length=k->(flags o).all id=true->wpE P md ops Q S n f (zipM is (flags o) L) (aE ds o a) w) (h:I (List.replicate k none) w):wpE P md ops Q S n (f+k) L a w:=by
 subst hk;have e:flags (List.replicate is.length none)=List.replicate is.length false:=by simp[flags]
 have:=ziy (P:=P) (Q:=Q) (md:=md) (S:=S) (n:=n) (ops:=ops) (f:=f) (L:=L) (a:=a) is ds va I hn hS hr Pb Pg is.length (List.replicate is.length none) w (by rw[e];simp) h (by simp) (by rw[e];exact hv)
 rwa [e,hL,hp]at this
theorem zlF {o:List (Option Value)}(h:o.length=2)(ha:(flags o).all id=true):∃u v,o= [some u,some v]:=by
 match o,h with
 | [some u,some v],_=>exact⟨u,v,rfl⟩
 | [none,_],_=>simp at ha
 | [some _,none],_=>simp at ha
theorem zf6 {o:List (Option Value)}(h:o.length=4)(ha:(flags o).all id=true):∃a b c d,o= [some a,some b,some c,some d]:=by
 match o,h with
 | [some a,some b,some c,some d],_=>exact⟨a,b,c,d,rfl⟩
 | [none,_,_,_],_=>simp at ha
 | [some _,none,_,_],_=>simp at ha
 | [some _,some _,none,_],_=>simp at ha
 | [some _,some _,some _,none],_=>simp at ha
theorem zog {o:List (Option Value)}(h:o.length=2):∃a b,o= [a,b]:=by
 match o,h with
 | [a,b],_=>exact⟨a,b,rfl⟩
theorem zhL {o:List (Option Value)}(h:o.length=4):∃a b c d,o= [a,b,c,d]:=by
 match o,h with
 | [a,b,c,d],_=>exact⟨a,b,c,d,rfl⟩
theorem zoh {o:List (Option Value)}(h:o.length=6):∃a b c d e f,o= [a,b,c,d,e,f]:=by
 match o,h with
 | [a,b,c,d,e,f],_=>exact⟨a,b,c,d,e,f,rfl⟩
theorem zpf {o:List (Option Value)}(h:o.length=6)(ha:(flags o).all id=true):∃a b c d e f,o= [some a,some b,some c,some d,some e,some f]:=by
 obtain⟨a,b,c,d,e,f,rfl⟩:=zoh h;cases a<;>cases b<;>cases c<;>cases d<;>cases e<;>cases f<;>simp at ha;exact⟨_,_,_,_,_,_,rfl⟩
end
structure ManyI (w2:World)(Pp:Nat->Value->Nat->Nat->World->Prop)(o:List (Option Value))(w:World):Prop where
 fr:Fr NoT w2 w
 iv:∃lo hi:Nat->Nat,(∀p v,o[p]?=some (some v)->Pp p v (lo p) (hi p) w/\w2.heap.size<=lo p/\hi p<=w.heap.size)/\∀p q u v,p≠q->o[p]?=some (some u)->o[q]?=some (some v)->hi p<=lo q\/hi q<=lo p
def NewB (ty:TypeId)(z:Value)(v:Value)(lo hi:Nat)(w:World):Prop:=v= .pointer (some ⟨lo,0,none⟩)/\hi=lo+1/\Bk w lo ty #[z]
def OnK (T:Nat)(P:Nat->Value->Nat->Nat->World->Prop):Prop:=∀p v lo hi w w',SameK T lo hi w w'->P p v lo hi w->P p v lo hi w'
section
variable {T:Nat} {w2 w w':World} {Pp:Nat->Value->Nat->Nat->World->Prop} {o:List (Option Value)} {p:Nat} {v:Value}
theorem NewB.same {ty:TypeId}{z:Value}{lo hi:Nat}(hs:SameK T lo hi w w')(h:NewB ty z v lo hi w):NewB ty z v lo hi w':=⟨h.1,h.2.1,(hs.2 lo (.inr ⟨aL _,by have:=h.2.1;omega⟩)).trans h.2.2⟩
theorem SameK.of (hf:Fr NoT w w'){lo hi:Nat}(h1:hi<=w.heap.size)(h2:T<=w.heap.size):SameK T lo hi w w':=⟨hf.size,λi hi=>hf.block i (by omega) id⟩
theorem zdT {o:List (Option Value)}{p q:Nat}{x:Option Value}{u:Value}(h:(o.set p x)[q]?=some (some u)):(q=p/\x=some u)\/(q≠p/\o[q]?=some (some u)):=by
 by_cases e:p=q
 ·subst e;have hl:p < o.length:=by
   have:=(List.getElem?_eq_some_iff.1 h).1;simpa using this
  rw[List.getElem?_set_self hl]at h;exact .inl ⟨rfl,by simpa using h⟩
 ·rw[List.getElem?_set_ne e]at h;exact .inr ⟨λe'=>e e'.symm,h⟩
theorem ManyI.put (h:ManyI w2 Pp o w)(hT:T<=w2.heap.size)(hf:Fr NoT w w')(hm:OnK T Pp)(hv:Pp p v w.heap.size w'.heap.size w'):ManyI w2 Pp (o.set p (some v)) w':=by
 obtain⟨lo,hi,h1,h2⟩:=h.iv;have Yl:T<=w.heap.size:=aK hT h.fr.size;refine⟨h.fr.trans hf,λq=>if q=p then w.heap.size else lo q,λq=>if q=p then w'.heap.size else hi q,λq u hq=>?_,λq r u v' X6 hq hr=>?_⟩
 ·rcases zdT hq with⟨rfl,e⟩|⟨Gh,e⟩
  ·cases e;simp only[if_true];exact⟨hv,h.fr.size,aL _⟩
  ·simp only[if_neg Gh];obtain⟨g1,g2,g3⟩:=h1 _ _ e;exact⟨hm _ _ _ _ _ _ (SameK.of hf g3 Yl) g1,g2,aK g3 hf.size⟩
 ·rcases zdT hq with⟨rfl,e⟩|⟨Gh,e⟩
  ·rcases zdT hr with⟨rfl,e2⟩|⟨FG,e2⟩
   ·exact absurd rfl X6
   ·simp only[if_true,if_neg FG];exact .inr (h1 _ _ e2).2.2
  ·rcases zdT hr with⟨rfl,e2⟩|⟨FG,e2⟩
   ·simp only[if_true,if_neg Gh];exact .inl (h1 _ _ e).2.2
   ·simp only[if_neg Gh,if_neg FG];exact h2 _ _ _ _ X6 e e2
theorem ManyI.lay (h:ManyI w2 Pp o w)(hT:T<=w2.heap.size)(hm:OnK T Pp){ty:TypeId}{z:Value}(hv:∀v lo hi w,NewB ty z v lo hi w->Pp p v lo hi w):ManyI w2 Pp (o.set p (some (.pointer (some ⟨w.heap.size,0,none⟩)))) (w.alloc (.cells #[z] ty)):=
 h.put hT (aH.alloc _) hm (hv _ _ _ _ ⟨rfl,by simp,Bk.new _ _ _⟩)
theorem ManyI.zero (w2:World)(n:Nat):ManyI w2 Pp (List.replicate n none) w2:=by
 refine⟨aH,λ_=>0,λ_=>0,λp v h=>?_,λp q u v _ h=>?_⟩<;>
 ·rw[List.getElem?_replicate]at h;split at h<;>simp at h
theorem ManyI.place (h:ManyI w2 Pp o w)(ho:o[p]?=some (some v)){ty:TypeId}{z:Value}(hv:∀v lo hi w,Pp p v lo hi w->NewB ty z v lo hi w):∃g,v= .pointer (some ⟨g,0,none⟩)/\w2.heap.size<=g/\Bk w g ty #[z]:=by
 obtain⟨lo,hi,h1,_⟩:=h.iv;obtain⟨g1,g2,g3⟩:=h1 _ _ ho;obtain⟨e1,e2,e3⟩:=hv _ _ _ _ g1;exact⟨_,e1,g2,e3⟩
def upP (Pp:Nat->Value->Nat->Nat->World->Prop)(p:Nat)(ty:TypeId)(u:Value):Nat->Value->Nat->Nat->World->Prop:=λq v lo hi w=>if q=p then NewB ty u v lo hi w else Pp q v lo hi w
theorem zfz (hm:OnK T Pp)(p:Nat)(ty:TypeId)(u:Value):OnK T (upP Pp p ty u):=λq v lo hi w w' hs h=>by
 unfold upP at h ⊢;by_cases e:q=p
 ·rw[if_pos e]at h ⊢;exact h.same hs
 ·rw[if_neg e]at h ⊢;exact hm _ _ _ _ _ _ hs h
theorem ManyI.set (h:ManyI w2 Pp o w)(hT:T<=w2.heap.size)(hm:OnK T Pp){g:Nat}(ho:o[p]?=some (some (.pointer (some ⟨g,0,none⟩)))){ty:TypeId}{z:Value}(hv:∀v lo hi w,Pp p v lo hi w->NewB ty z v lo hi w)(u:Value):
  ManyI w2 (upP Pp p ty u) o (w.setCell ⟨g,0,none⟩ u):=by
 obtain⟨lo,hi,h1,h2⟩:=h.iv;obtain⟨g1,g2,g3⟩:=h1 _ _ ho;obtain⟨e1,e2,e3⟩:=hv _ _ _ _ g1;obtain rfl:g=lo p:=by simpa using e1
 refine⟨h.fr.high g2 0 u,lo,hi,λq v hq=>?_,h2⟩;obtain⟨k1,k2,k3⟩:=h1 _ _ hq;refine⟨?_,k2,by simpa using k3⟩;unfold upP;by_cases e:q=p
 ·subst e;rw[if_pos rfl];rw[ho]at hq;obtain rfl:=Option.some.inj (Option.some.inj hq);exact⟨rfl,e2,by simpa using e3.set_ 0 u⟩
 ·rw[if_neg e];refine hm _ _ _ _ _ _ ⟨by simp,λi hi=>Below.heap_setCell w _ u i λe'=>?_⟩ k1;have e':i=lo p:=e';have:=h2 _ _ _ _ e hq ho;omega
theorem ManyI.at_ (h:ManyI w2 Pp o w)(ho:o[p]?=some (some v)):∃lo hi,Pp p v lo hi w/\w2.heap.size<=lo/\hi<=w.heap.size:=by
 obtain⟨lo,hi,h1,h2⟩:=h.iv;exact⟨_,_,h1 _ _ ho⟩
theorem ManyI.two (h:ManyI w2 Pp o w){q g g':Nat}(P0:p≠q)(ho:o[p]?=some (some (.pointer (some ⟨g,0,none⟩))))(j0:o[q]?=some (some (.pointer (some ⟨g',0,none⟩)))){ty ty':TypeId}{z z':Value}(hv:∀v lo hi w,Pp p v lo hi w->NewB ty z v lo hi w)(PY:∀v lo hi w,Pp q v lo hi w->NewB ty' z' v lo hi w):g≠g':=by
 obtain⟨lo,hi,h1,h2⟩:=h.iv;obtain⟨e1,e2,_⟩:=hv _ _ _ _ (h1 _ _ ho).1;obtain⟨d1,d2,_⟩:=PY _ _ _ _ (h1 _ _ j0).1;have a1:g=lo p:=by simpa using e1
 have a2:g'=lo q:=by simpa using d1
 have:=h2 _ _ _ _ P0 ho j0;omega
end
def PpG (C:BgC)(f:Nat->Option (Value->Nat->Nat->World->Prop))(ty:Nat->TypeId):Nat->Value->Nat->Nat->World->Prop:=λp v lo hi w=>match f p with
 |some g=>g v lo hi w/\hi<=w.heap.size/\C.T<=w.heap.size
 |none=>NewB (ty p) .nilFunc v lo hi w
theorem PpG.on {C:BgC}{f:Nat->Option (Value->Nat->Nat->World->Prop)}{ty:Nat->TypeId}(hf:∀p g,f p=some g->∀v lo hi w w',Later C lo hi w w'->g v lo hi w->g v lo hi w'):OnK C.T (PpG C f ty):=λp v lo hi w w' hs h=>by
 unfold PpG at h ⊢;cases e:f p with
 |none=>
  simp only[e]at h ⊢;exact h.same hs
 |some g=>
  simp only[e]at h ⊢;exact⟨hf p g e _ _ _ _ _ (Later.same hs h.2.1 h.2.2) h.1,aK h.2.1 hs.1,aK h.2.2 hs.1⟩
open Go.Shelf
def hdX (n:Bn)(ps:List (List UInt8))(k:Int)(nm:ByteArray)(args:Exs):Prop:=(1<=k/\k<=11)/\nm.size<=9223372036854775807/\(k=2->InSc n ps nm)/\(k=3->∃i,posI n.arrs nm.data.toList=some i)/\(k<=2->args.len=0)/\(k=3\/k=4->args.len=1)/\(5<=k->args.len=2)
def wfX (n:Bn)(ps:List (List UInt8)):Exs->Prop
 | .nil =>True
 | .cons k nm _ args _ r=>hdX n ps k nm args/\wfX n ps args/\wfX n ps r
def MkV (C:BgC)(ps:List (List UInt8))(X:Bs->Ho ⊕ Int)(W:World)(e:Ending)(w':World):Prop:=∃val,e= .returned val/\Fr NoT W w'/\ValP C ps val X W.heap.size w'.heap.size w'
def ExpC (C:BgC)(ps:List (List UInt8))(k:Int)(nm:ByteArray)(m:Int)(args:Exs)(at_:Int):Prop:=
 ∀(W:World)(S:Nat->Prop)(Z:Prop)(A:Option Addr)(c:Nat),C.T<=W.heap.size->PgAt C W->(∀x,S x->x < C.B)->in64 m->SlR (λb o=>ExR W S Z args b o) args.len 64 A c->
  Calls Tryz.prog 175 #[.pointer (some ⟨C.P,0,none⟩),.agg #[.int .u8 k,.string nm,.int .i64 m,.slice A args.len c,.int .i64 at_]] W (MkV C ps (valH C.n ps k nm m at_ args) W)
def boxE (C:BgC)(W:World)(k:Int)(nm:ByteArray)(m:Int)(A:Option Addr)(l c:Nat)(at_:Int):World:=(W.alloc (.cells #[.pointer (some ⟨C.P,0,none⟩)] 69)).alloc (.cells #[.int .u8 k,.string nm,.int .i64 m,.slice A l c,.int .i64 at_] 175)
structure BxE (C:BgC)(W w:World)(k:Int)(nm:ByteArray)(m:Int)(A:Option Addr)(l c:Nat)(at_:Int):Prop where
 fr:Fr NoT W w
 p:Bk w W.heap.size 69 #[.pointer (some ⟨C.P,0,none⟩)]
 q:Bk w (W.heap.size+1) 175 #[.int .u8 k,.string nm,.int .i64 m,.slice A l c,.int .i64 at_]
section
variable {C:BgC} {ps:List (List UInt8)} {W w w':World} {k:Int} {nm:ByteArray} {m:Int} {A:Option Addr} {l c:Nat} {at_:Int}
theorem zlG:BxE C W (boxE C W k nm m A l c at_) k nm m A l c at_:=⟨(aH.alloc _).alloc _,(Bk.new _ _ _).alloc _,Bk.new_at _ _ _ (by simp)⟩
theorem BxE.next (h:BxE C W w k nm m A l c at_)(hf:Fr NoT w w'):BxE C W w' k nm m A l c at_:=⟨h.fr.trans hf,h.p.fr0 hf,h.q.fr0 hf⟩
theorem BxE.bp (h:BxE C W w k nm m A l c at_):Bx W.heap.size w.heap.size w W.heap.size 69 #[.pointer (some ⟨C.P,0,none⟩)]:=⟨h.p,aL _,h.p.lt⟩
theorem BxE.bq (h:BxE C W w k nm m A l c at_):Bx W.heap.size w.heap.size w (W.heap.size+1) 175 #[.int .u8 k,.string nm,.int .i64 m,.slice A l c,.int .i64 at_]:=⟨h.q,Nat.le_succ _,h.q.lt⟩
theorem ValP.eq {X Y:Bs->Ho ⊕ Int}{val:Value}{lo hi:Nat}(h:ValP C ps val X lo hi w)(e:X=Y):ValP C ps val Y lo hi w:=e▸h
theorem is_of {n:Int}(h:in64 n):is64 n:=by unfold in64 at h;unfold is64;omega
theorem Exs.len0:∀ {xs:Exs},xs.len=0->xs= .nil
 | .nil,_=>rfl
 | .cons _ _ _ _ _ _,h=>by simp[Exs.len]at h
theorem zns (ho:C.Ok)(args:Exs)(hd:hdX C.n ps k nm args)(hk:k<=2):ExpC C ps k nm m args at_:=by
 intro W S Z A c hT GE hS hm hx;obtain⟨⟨h1,_⟩,hs,hi,_,h0,_⟩:=hd;obtain rfl:=Exs.len0 (h0 hk);have hB:=zlG (C:=C) (W:=W) (k:=k) (nm:=nm) (m:=m) (A:=A) (l:=Exs.nil.len) (c:=c) (at_:=at_);rcases(show k=1\/k=2 from by omega)with rfl|rfl
 ·have HV:=aA (val_1 (ps:=ps) ho hB.bq hT (is_of hm));have HF:=aA hB.fr;unfold boxE at HV HF;clear hT GE hS hm hx hs hi h0 hB h1 hk;go_enter Tryz.func175,Tryz.ntmps175;go_wp2_with fail;go_ret;exact⟨_,rfl,HF.out,HV.out⟩
 ·have HV:=aA (val_2 (ps:=ps) ho hB.bq hT hs (hi rfl));have HF:=aA hB.fr;unfold boxE at HV HF;clear hT GE hS hm hx hs hi h0 hB h1 hk;go_enter Tryz.func175,Tryz.ntmps175;go_wp2_with fail;go_ret;exact⟨_,rfl,HF.out,HV.out⟩
end
def ExS (p q b o:Nat)(P A:Option Addr)(l c:Nat)(v0 v1 v2 v3 v4:Value)(W:World):Prop:=W.cell? ⟨p,0,none⟩=some (.pointer P)/\W.cell? ⟨q,3,none⟩=some (.slice A l c)/\W.cell? ⟨b,o,none⟩=some v0/\W.cell? ⟨b,o+1,none⟩=some v1/\W.cell? ⟨b,o+2,none⟩=some v2/\W.cell? ⟨b,o+3,none⟩=some v3/\W.cell? ⟨b,o+4,none⟩=some v4
def PpE (C:BgC)(ps:List (List UInt8))(X:Bs->Ho ⊕ Int):Nat->Value->Nat->Nat->World->Prop:=λp v lo hi w=>if p=0 then ValP C ps v X lo hi w/\hi<=w.heap.size/\C.T<=w.heap.size else NewB 278 .nilFunc v lo hi w
theorem PpE.on (C:BgC)(ps:List (List UInt8))(X:Bs->Ho ⊕ Int):OnK C.T (PpE C ps X):=λp v lo hi w w' hs h=>by
 unfold PpE at h ⊢;by_cases e:p=0
 ·rw[if_pos e]at h ⊢;exact⟨h.1.later (Later.same hs h.2.1 h.2.2),aK h.2.1 hs.1,aK h.2.2 hs.1⟩
 ·rw[if_neg e]at h ⊢;exact h.same hs
theorem zg5 {xs:Exs}{k nm m a t r}(e:xs= .cons k nm m a t r)(h:xs.len=1):r= .nil :=by
 subst e;exact Exs.len0 (by simpa[Exs.len]using h)
theorem zbV (n:Bn)(ps:List (List UInt8))(s:Bs)(k nm m a t):valL n ps s (.cons k nm m a t .nil)=(match valH n ps k nm m t a s with| .inl h=> .inl h| .inr x=> .inr [x]):=by
 simp only[valL,valH];rcases valL n ps s a with h|l
 ·rfl
 ·simp only;rcases zdt n ps s k nm m t l with h|x<;>rfl
theorem zf7 (n:Bn)(ps:List (List UInt8))(s:Bs)(k nm m a t r):valL n ps s (.cons k nm m a t r)=(match valH n ps k nm m t a s with| .inl h=> .inl h| .inr x=>match valL n ps s r with| .inl h=> .inl h| .inr q=> .inr (x::q)):=by
 simp only[valL,valH];rcases valL n ps s a with h|l
 ·rfl
 ·simp only;rcases zdt n ps s k nm m t l with h|x<;>rfl
theorem zqb (n:Bn)(ps:List (List UInt8))(nm m at_ k0 n0 m0 a0 t0):ldV n nm at_ (valH n ps k0 n0 m0 t0 a0)=valH n ps 3 nm m at_ (.cons k0 n0 m0 a0 t0 .nil):=by
 funext s
 show ldV n nm at_ (valH n ps k0 n0 m0 t0 a0) s=(match valL n ps s (.cons k0 n0 m0 a0 t0 .nil)with| .inl h=> .inl h| .inr l=>zdt n ps s 3 nm m at_ l)
 rw[zbV];unfold ldV;rcases valH n ps k0 n0 m0 t0 a0 s with h|x
 ·rfl
 ·rfl
theorem zqc (n:Bn)(ps:List (List UInt8))(nm m at_ k0 n0 m0 a0 t0):opV 4 at_ (valH n ps k0 n0 m0 t0 a0) (λ_=> .inr 0)=valH n ps 4 nm m at_ (.cons k0 n0 m0 a0 t0 .nil):=by
 funext s
 show opV 4 at_ (valH n ps k0 n0 m0 t0 a0) _ s=(match valL n ps s (.cons k0 n0 m0 a0 t0 .nil)with| .inl h=> .inl h| .inr l=>zdt n ps s 4 nm m at_ l)
 rw[zbV];unfold opV;rcases valH n ps k0 n0 m0 t0 a0 s with h|x
 ·rfl
 ·rfl
theorem zqd (n:Bn)(ps:List (List UInt8))(k:Int)(hk:5<=k)(nm m at_ k0 n0 m0 a0 t0 k1 n1 m1 a1 t1):opV k at_ (valH n ps k0 n0 m0 t0 a0) (valH n ps k1 n1 m1 t1 a1)=valH n ps k nm m at_ (.cons k0 n0 m0 a0 t0 (.cons k1 n1 m1 a1 t1 .nil)):=by
 funext s
 show opV k at_ (valH n ps k0 n0 m0 t0 a0) _ s=(match valL n ps s (.cons k0 n0 m0 a0 t0 (.cons k1 n1 m1 a1 t1 .nil))with| .inl h=> .inl h| .inr l=>zdt n ps s k nm m at_ l)
 rw[zf7,zbV];unfold opV;rcases valH n ps k0 n0 m0 t0 a0 s with h|x
 ·rfl
 ·rcases valH n ps k1 n1 m1 t1 a1 s with h|y
  ·rfl
  ·have h9:zdt n ps s k nm m at_ [x,y]=if opW k x y=0 then .inr (opR k x y)else .inl ⟨5,opW k x y,at_⟩:=by
    unfold zdt;rw[if_neg (by omega),if_neg (by omega),if_neg (by omega)];rfl
   exact h9.symm
theorem znt (C:BgC)(ps:List (List UInt8))(ho:C.Ok)(k:Int)(nm:ByteArray)(m:Int)(args:Exs)(at_:Int)(hd:hdX C.n ps k nm args)(hk:3<=k)(k0 n0 m0 a0 t0 r0)(e:args= .cons k0 n0 m0 a0 t0 r0)(h0:ExpC C ps k0 n0 m0 a0 t0)
  (h1:∀k1 n1 m1 a1 t1 r1,r0= .cons k1 n1 m1 a1 t1 r1->ExpC C ps k1 n1 m1 a1 t1):ExpC C ps k nm m args at_:=by
 intro W S Z A c hT GE hS hm hx;obtain⟨b0,o0,rfl,Hg⟩:=hx.2.2 (by rw[e];simp[Exs.len]);rw[e]at Hg;obtain⟨⟨Gn,_,_,GW,_,e0,e1,e2,e4⟩,⟨A1,c1,e3,s1⟩,M5⟩:=Hg;obtain⟨⟨_,Pu⟩,hs,_,Mr,_,Uq,So⟩:=hd;obtain⟨l,hl⟩:=aF args.len;have Nx:0 < l:=by rw[hl,e];simp[Exs.len]
 have Wu:l<=9223372036854775807:=by rw[hl];exact aK hx.1 hx.2.1.1
 obtain⟨l1,Fw⟩:=aF a0.len;rw[<-Fw]at e3;obtain⟨w2,Gc⟩:=aF (boxE C W k nm m (some ⟨b0,o0,none⟩) l c at_);have hB:BxE C W w2 k nm m (some ⟨b0,o0,none⟩) l c at_:=by rw[Gc];exact zlG
 have Fu:C.B<=W.heap.size:=by have h1:=ho.br;have h2:=ho.rT;omega
 have Fm:b0 < W.heap.size:=aM (hS _ Gn) Fu;have Jl:C.T<=w2.drew.heap.size:=aK hT hB.fr.size;have Fx:∀w',Fr NoT W w'->SameS S W w':=λw' hf=>hf.same λb hb=>⟨aM (hS b hb) Fu,id⟩;have Gt:∀w',Fr NoT W w'->PgAt C w':=λw' hf=>GE.later ho (Later.of0 (lo:=0) (hi:=0) hf (Nat.zero_le _) hT);have H9:∀w',Fr NoT W w'->_:=λw' hf=>h0 w' S Z A1 c1 (aK hT hf.size) (Gt w' hf) hS GW (s1.imp λ_ _ hx=>ExR.keep (Fx w' hf) hx);have GH:∀w',Fr NoT w2 w'->ExS W.heap.size (W.heap.size+1) b0 o0 (some ⟨C.P,0,none⟩) (some ⟨b0,o0,none⟩) l c (.int .u8 k0) (.string n0) (.int .i64 m0) (.slice A1 l1 c1) (.int .i64 t0) w':=λw' hf=>
  have He:=hB.fr.trans hf
  ⟨(hB.next hf).p.cell 0,(hB.next hf).q.cell 3,(He.cell Fm id).trans e0,(He.cell Fm id).trans e1,(He.cell Fm id).trans e2,(He.cell Fm id).trans e3,(He.cell Fm id).trans e4⟩
 have Hb:∀w7 x1 v1 xn Fd,Fr NoT W w7->BxE C W w7 k nm m (some ⟨b0,o0,none⟩) l c at_->Bx W.heap.size w7.heap.size w7 x1 278 #[v1]->ValP C ps v1 (valH C.n ps k0 n0 m0 t0 a0) xn Fd w7->W.heap.size<=xn->Fd<=w7.heap.size->
   (k=3->MkV C ps (valH C.n ps k nm m at_ args) W (.returned (.func (.func 229) #[] #[.pointer (some ⟨W.heap.size,0,none⟩),.pointer (some ⟨W.heap.size+1,0,none⟩),.pointer (some ⟨x1,0,none⟩)])) w7)/\
   (k≠3->∀w9 x2 v2 X1,Fr NoT w7 w9->Bx W.heap.size w9.heap.size w9 x2 277 #[v2]->ValP C ps v2 X1 W.heap.size w9.heap.size w9->opV k at_ (valH C.n ps k0 n0 m0 t0 a0) X1=valH C.n ps k nm m at_ args->
    MkV C ps (valH C.n ps k nm m at_ args) W (.returned (.func (.func 231) #[] #[.pointer (some ⟨x1,0,none⟩),.pointer (some ⟨W.heap.size+1,0,none⟩),.pointer (some ⟨x2,0,none⟩)])) w9):=by
  intro w7 x1 v1 xn Fd Hs P2 Ff F5 M4 Q4;refine⟨λk3=>?_,λk3 w9 x2 v2 X1 Gl GK Kv he=>?_⟩
  ·obtain⟨i,hi⟩:=Mr k3;refine⟨_,rfl,Hs,(val_3 ho hT (Gt _ Hs) P2.bp P2.bq Ff hs hi (F5.wide M4 Q4)).eq ?_⟩;have hr:=zg5 e (Uq (.inl k3));subst k3 hr e;exact zqb ..
  ·have v8:=P2.next Gl;refine⟨_,rfl,Hs.trans Gl,(val_5 ho hT v8.bq ⟨Ff.1.fr0 Gl,Ff.2.1,aM Ff.2.2 Gl.size⟩ GK ⟨by omega,Pu⟩ ((F5.later (Later.of0 Gl Q4 (aK hT Hs.size))).wide M4 (aK Q4 Gl.size)) Kv).eq he⟩
 rw[<-Fw]at H9;have Ki:=aA GH;have HC:=aA H9;have HB:=aA hB;have FY:=aA Hb;unfold boxE at Gc;have HW:=aA Gc;have GU:=aA Jl;rw[<-hl];have q1:(k==1)=false:=by simp;omega
 have q2:(k==2)=false:=by simp;omega
 have HX:=aA (aG M5 (aG hS (aG Gn (aG Fu (aG hT (aG e (aG hl (aG hk (aG Uq (aG So (aG h1 (aG Gt Fx))))))))))));clear GH H9 hB Hb Gc Jl M5 hS Gn Fu hT e hl hk Uq So h1 Gt Fx hx hm GW GE e0 e1 e2 e3 e4 s1 Pu hs Mr Fw Fm h0;go_enter Tryz.func175,Tryz.ntmps175;go_wp2_with fail;rw[<-HW.out];refine zad (ExS W.heap.size (W.heap.size+1) b0 o0 (some ⟨C.P,0,none⟩) (some ⟨b0,o0,none⟩) l c (.int .u8 k0) (.string n0) (.int .i64 m0) (.slice A1 l1 c1) (.int .i64 t0)) (λi=>decide (i < 7)) (by kernel_rfl) (Ki _ aH.drew) (λaC=>?_);refine zaa 1 ?_;simp only[aB];refine zac 0 aC ?_;simp only[aB];refine zac 2 aC ?_;simp only[aB];refine zaa 3 ?_;simp only[aB];refine zac 4 aC ?_;simp only[aB];refine zbP 2 [5,6] [20,5] (λ_=>true) (λo w=>ManyI w2.drew (PpE C ps (valH C.n ps k0 n0 m0 t0 a0)) o w) rfl (by decide) (by kernel_rfl) rfl (λo w h=>Ki _ (aH.drew.trans h.fr)) (by kernel_rfl) rfl (λo w p i hI Kj FA FQ _=>?_) (λo w hI Kj Hb=>?_) (ManyI.zero _ _)
 ·obtain⟨u,v,rfl⟩:=zog Kj;rcases p with _|_|p
  ·simp at FA FQ;subst FA FQ;cases v;all_goals
    simp only[aE,Act.put,List.setIfInBounds_toArray,List.set_cons_zero,List.set_cons_succ];refine wpOp_step (zak rfl) (λKK hK=>?_);go_simp;go_at_call 175;refine(HC w ((HB.fr.trans (Fr.refl NoT w2).drew).trans hI.fr)).mono ?_;rintro _ w5 ⟨v0,rfl,Hm,Jf⟩;try dsimp only
    refine hK _ _ ?_;exact⟨v0,by kernel_rfl,hI.put (p:=0) GU.out Hm (PpE.on _ _ _) (by unfold PpE;rw[if_pos rfl];exact⟨Jf,aL _,aK GU.out (aK hI.fr.size Hm.size)⟩)⟩
  ·simp at FA FQ;subst FA FQ;cases u;all_goals
    simp only[aE,Act.put,List.setIfInBounds_toArray,List.set_cons_zero,List.set_cons_succ];refine wpOp_step (zak rfl) (λKK hK=>?_);go_simp;refine hK _ _ ?_;exact⟨_,by kernel_rfl,hI.lay (p:=1) GU.out (PpE.on _ _ _) (λv lo hi w h=>by unfold PpE;rw[if_neg (by decide)];exact h)⟩
  ·simp at FA
 ·obtain⟨u,v,rfl⟩:=zlF Kj Hb;obtain⟨gg,cps,rfl⟩:∃gg cps,u= .func (.func gg) #[] cps:=by
   obtain⟨_,_,h9,_⟩:=hI.at_ (p:=0) rfl;unfold PpE at h9;rw[if_pos rfl]at h9;obtain⟨gg,cps,h9,_⟩:=h9.1;exact⟨gg,cps,h9⟩
  obtain⟨u,hu⟩:=aF (Value.func (.func gg) #[] cps);rw[<-hu]at hI;have Mv:∀v lo hi w,PpE C ps (valH C.n ps k0 n0 m0 t0 a0) 1 v lo hi w->NewB 278 .nilFunc v lo hi w:=λv lo hi w h=>by unfold PpE at h;rwa [if_neg (by decide)]at h
  obtain⟨g,rfl,hg,LB⟩:=hI.place (p:=1) rfl Mv;have h7:=hI.set (p:=1) GU.out (PpE.on _ _ _) rfl Mv u;obtain⟨xn,Fd,Fb,Q5,Q6⟩:=h7.at_ (p:=0) rfl;unfold upP at Fb;rw[if_neg (by decide)]at Fb;unfold PpE at Fb;rw[if_pos rfl]at Fb;obtain⟨g7,e7,ya,_⟩:=h7.place (p:=1) (ty:=278) (z:=u) rfl (λv lo hi w h=>by unfold upP at h;rwa [if_pos rfl]at h);obtain rfl:g=g7:=by simpa using e7
  have NR:Bk (w.setCell ⟨g,0,none⟩ u) g 278 #[u]:=by simpa using LB.set_ 0 u
  have M4:W.heap.size<=w2.drew.heap.size:=HB.fr.size;have Hs:=(HB.fr.trans (Fr.refl NoT w2).drew).trans h7.fr;have WO:=FY _ g u xn Fd Hs (HB.next ((Fr.refl NoT w2).drew.trans h7.fr)) ⟨NR,aK M4 hg,NR.lt⟩ Fb.1 (aK M4 Q5) Q6;have j1:=(HB.next ((Fr.refl NoT w2).drew.trans h7.fr)).q.cell 0;have Tb:=LB.cell 0;have N6:=LB.frozen 0;have GY:=LB.lt;have yb:=aA (Ki _ ((Fr.refl NoT w2).drew.trans h7.fr));have Fp:=aA Hs;have H7:=aA WO;have Rw:=aA (HB.next ((Fr.refl NoT w2).drew.trans h7.fr));simp only[aD]at Tb j1;simp only[aE,Act.put,List.setIfInBounds_toArray,List.set_cons_zero,List.set_cons_succ];subst hu;clear hI h7 Fb Q5 Q6 e7 ya LB NR WO Hs aC hg M4 Hb Kj;refine zab 7 rfl (by kernel_rfl) (λKK hK=>?_);go_simp;refine hK _ _ (λh=>absurd h (by decide)) ?_;clear hK KK;try simp only[aB]
  refine zae (by kernel_rfl) ?_;have hO:=Rw.q.lt;clear Tb N6 GY;obtain⟨w7,PC⟩:=aF (w.setCell ⟨g,0,none⟩ (.func (.func gg) #[] cps));rw[<-PC]at j1 yb Fp H7 Rw hO ⊢;clear PC;by_cases k3:k=3
  ·have q3:(k==3)=true:=by simpa using k3
   have HE:=aA (H7.1 k3);clear H7 k3;go_wp2_with fail;go_ret;exact HE.out
  ·have q3:(k==3)=false:=by simpa using k3
   have HE:=aA (H7.2 k3);by_cases k4:k=4
   ·have q4:(k != 4)=false:=by simpa using k4
    have GK:=Bk.new w7 277 #[.func (.func 230) #[] #[]];have Gl:Fr NoT w7 (w7.alloc (.cells #[.func (.func 230) #[] #[]] 277)):=aH.alloc _;have HR:=aA (HE _ _ _ (λ_=> .inr 0) Gl ⟨GK,Fp.size,by simp⟩ val_4 (by
     obtain⟨_,_,_,_,_,e,_,_,Uq,_⟩:=HX.out;have hr:=zg5 e (Uq (.inr k4));rw[hr]at e;rw[k4,e];exact zqc ..))
    clear GK Gl k4;go_wp2_with fail;go_ret;exact HR.out
   ·have q4:(k != 4)=true:=by simpa using k4
    obtain⟨M5,hS,Gn,Fu,hT,e,hl,hk,Uq,So,h1,Gt,Fx⟩:=HX.out;have Fm:b0 < W.heap.size:=aM (hS _ Gn) Fu;have FM:args.len=2:=So (by omega);obtain⟨k1,n1,m1,a1,t1,r1,rfl⟩:∃k1 n1 m1 a1 t1 r1,r0= .cons k1 n1 m1 a1 t1 r1:=by
     cases r0 with
     |nil=>rw[e]at FM;simp[Exs.len]at FM
     |cons a b c d f g=>exact⟨_,_,_,_,_,_,rfl⟩
    obtain rfl:r1= .nil :=Exs.len0 (by rw[e]at FM;simp[Exs.len]at FM;exact FM);obtain⟨⟨_,_,_,Jn,_,f0,f1,f2,f4⟩,⟨A2,c2,f3,s2⟩,_⟩:=M5;have U1:=h1 _ _ _ _ _ _ rfl;obtain⟨l2,Ur⟩:=aF a1.len;obtain⟨w8,G3⟩:=aF (w7.alloc (.cells #[.func (.func 230) #[] #[]] 277));have GQ:Fr NoT w7 w8:=by rw[G3];exact aH.alloc _
    have Kt:Bk w8 w7.heap.size 277 #[.func (.func 230) #[] #[]]:=by rw[G3];exact Bk.new _ _ _
    have j2:w7.heap.size < w8.heap.size:=Kt.lt;have Q7:=Fp.trans GQ;have Vc:=aA (show ∀w',Fr NoT w8 w'->ExS W.heap.size (W.heap.size+1) b0 (o0+5) (some ⟨C.P,0,none⟩) (some ⟨b0,o0,none⟩) l c (.int .u8 k1) (.string n1) (.int .i64 m1) (.slice A2 l2 c2) (.int .i64 t1) w' from λw' hf=>
     have He:=Q7.trans hf
     ⟨(Rw.next (GQ.trans hf)).p.cell 0,(Rw.next (GQ.trans hf)).q.cell 3,(He.cell Fm id).trans f0,(He.cell Fm id).trans f1,(He.cell Fm id).trans f2,(He.cell Fm id).trans (by rw[Ur];exact f3),(He.cell Fm id).trans f4⟩)
    have j3:=aA (show ∀w',Fr NoT w8 w'->_ from λw' hf=>U1 w' S Z A2 c2 (aK hT (Q7.trans hf).size) (Gt w' (Q7.trans hf)) hS Jn (s2.imp λ_ _ hx=>ExR.keep (Fx w' (Q7.trans hf)) hx));rw[<-Ur]at j3;have WP:(1:Int) < (l:Int):=by rw[hl];omega
    have hZ:=aA (show ∀w9 v2,Fr NoT w8 w9->ValP C ps v2 (valH C.n ps k1 n1 m1 t1 a1) w8.heap.size w9.heap.size w9->MkV C ps (valH C.n ps k nm m at_ args) W (.returned (.func (.func 231) #[] #[.pointer (some ⟨g,0,none⟩),.pointer (some ⟨W.heap.size+1,0,none⟩),.pointer (some ⟨w7.heap.size,0,none⟩)])) (w9.setCell ⟨w7.heap.size,0,none⟩ v2)from λw9 v2 hf hv=>by
     have h9:=Fp.size;have h8:=GQ.size;have Jj:=hf.size;refine HE _ w7.heap.size v2 _ ((GQ.trans hf).high (aL _) 0 _) ⟨by simpa using (Kt.fr0 hf).set_ 0 v2,h9,by simp;omega⟩ ((hv.later (Later.far (aL _) (by omega) ⟨by omega,.inl j2⟩ 0 v2)).wide (by omega) (by simp)) ?_;rw[e];exact zqd _ _ _ (by omega) _ _ _ _ _ _ _ _ _ _ _ _ _)
    have yc:=aA (λw9 (hf:Fr NoT w8 w9)=>Kt.fr0 hf);clear hS Gn Fu hT e hl hk Uq So h1 Gt Fx Fm FM U1 Ur GQ Kt j2 Q7 f0 f1 f2 f3 f4 s2 Jn HX HE k4 k3;have ga:=aA G3;clear G3;go_wp2_with fail;rw[<-ga.out];refine zad (ExS W.heap.size (W.heap.size+1) b0 (o0+5) (some ⟨C.P,0,none⟩) (some ⟨b0,o0,none⟩) l c (.int .u8 k1) (.string n1) (.int .i64 m1) (.slice A2 l2 c2) (.int .i64 t1)) (λi=>decide (i < 6)) (by kernel_rfl) (Vc _ aH.drew) (λaC=>?_);refine zaa 1 ?_;simp only[aB];refine zac 0 aC ?_;simp only[aB];refine zac 2 aC ?_;simp only[aB];refine zaa 3 ?_;simp only[aB];refine zac 4 aC ?_;simp only[aB];refine zab 5 rfl (by kernel_rfl) (λKK hK=>?_);go_simp;go_at_call 175;refine(j3 _ (Fr.refl NoT w8).drew).mono ?_;rintro _ w9 ⟨v2,rfl,Gl,SY⟩;have Sp:=(Fr.refl NoT w8).drew.trans Gl;have j4:=hZ w9 v2 Sp SY;obtain⟨DQ,uM,rfl,_⟩:=SY;have Vd:=yc _ Sp;have z0:=Vd.cell 0;have z1:=Vd.frozen 0;have z2:=Vd.lt;have HR:=aA j4;have Lj:=aA Sp;simp only[aD]at z0;clear Gl Sp j4 Vd;try dsimp only
    refine hK _ _ (λ_ _=>Vc _ Lj.out) ?_;clear hK KK;try simp only[aB]
    refine zab 6 rfl (by kernel_rfl) (λKK hK=>?_);go_simp;refine hK _ _ (λh=>absurd h (by decide)) ?_;clear hK KK;try simp only[aB]
    refine zae (by kernel_rfl) ?_;go_wp2_with fail;go_ret;exact HR.out
theorem zpg (C:BgC)(ps:List (List UInt8))(ho:C.Ok)(k:Int)(nm:ByteArray)(m:Int)(args:Exs)(at_:Int)(hd:hdX C.n ps k nm args)(h:∀i k0 n0 m0 a0 t0 r0,Exs.drop i args= .cons k0 n0 m0 a0 t0 r0->ExpC C ps k0 n0 m0 a0 t0):ExpC C ps k nm m args at_:=by
 by_cases hk:k<=2
 ·exact zns ho args hd hk
 ·obtain⟨k0,n0,m0,a0,t0,r0,e⟩:∃k0 n0 m0 a0 t0 r0,args= .cons k0 n0 m0 a0 t0 r0:=by
   obtain⟨_,_,_,_,_,h1,h2⟩:=hd;cases args with
   |nil=>
    exfalso
    by_cases h4:k=3\/k=4
    ·have:=h1 h4;simp[Exs.len]at this
    ·have:=h2 (by omega);simp[Exs.len]at this
   |cons a b c d f g=>exact⟨_,_,_,_,_,_,rfl⟩
  exact znt C ps ho k nm m args at_ hd (by omega) k0 n0 m0 a0 t0 r0 e (h 0 _ _ _ _ _ _ (by rw[e];rfl)) λk1 n1 m1 a1 t1 r1 e1=>h 1 _ _ _ _ _ _ (by rw[e,e1];rfl)
theorem zdU (C:BgC)(ps:List (List UInt8))(ho:C.Ok):∀xs:Exs,wfX C.n ps xs->∀i k nm m a t r,Exs.drop i xs= .cons k nm m a t r->ExpC C ps k nm m a t
 | .nil,_,i,_,_,_,_,_,_,h=>by cases i<;>simp[Exs.drop]at h
 | .cons k nm m args at_ r,hw,0,k0,n0,m0,a0,t0,r0,h=>by
  simp only[Exs.drop,Exs.cons.injEq]at h;obtain⟨rfl,rfl,rfl,rfl,rfl,_⟩:=h;exact zpg C ps ho _ _ _ _ _ hw.1 (zdU C ps ho _ hw.2.1)
 | .cons k nm m args at_ r,hw,i+1,k0,n0,m0,a0,t0,r0,h=>by
  simp only[Exs.drop]at h;exact zdU C ps ho r hw.2.2 i _ _ _ _ _ _ h
